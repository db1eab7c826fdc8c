/-
  WHAT THE FUNCTIONS COME TO: each is read by the evaluator,printed,and told as a function of data,part 5 of 13 (no condition).
-/
import Derived.Test.YtafbipadnnmccaaDoorW4
noncomputable section
namespace Go.Proofs.YtafbipadnnmccaaDoor.W
open Go.Proofs.YtafbipadnnmccaaDoor.Ev Go.RowKit
def Bad (W:Nat->Prop) (S:St) (r:Rs) (c n:Nat):Prop:=∃U x,r=some (.pan (.iface 51 (.ptr x 0)),U)/\AgAt U x 52 2 (qk3 c n)/\S.next<=x/\x<U.next/\Grew W S U
section
variable {K:FuncId->Option KF} {S T:St} {b i:Nat} {s:Bs} {vT vW:V} {W V':Nat->Prop} {r:Rs} {c n:Nat}
theorem Bad.callP (h:Bad W S r c n) (k:V->St->Rs):Bad W S (callP r k) c n:=by
 obtain⟨U,x,rfl,h2⟩:=h;exact⟨U,x,rfl,h2⟩
theorem Bad.mono (h:Bad W S r c n) (hW:∀x,W x->V' x):Bad V' S r c n:=by
 obtain⟨U,x,h1,h2,h3,h4,h5⟩:=h;exact⟨U,x,h1,h2,h3,h4,h5.mono fun x _ hx=>hW x hx⟩
theorem Bad.after (g:Grew W S T) (h:Bad W T r c n):Bad W S r c n:=by
 obtain⟨U,x,h1,h2,h3,h4,h5⟩:=h;exact⟨U,x,h1,h2,Nat.le_trans g.next h3,h4,g.trans h5⟩
theorem qc4 (hK:RefL K) (m:Nat) (ho:S.on=false) (c n:Nat):Bad (fun _=>False) S ((ev E0 K (m+1)).f 25 [.int .i64 (c:Int),.int .i64 (n:Int)] S) c n:=by
 obtain⟨U,k1,k2,k3,k4⟩:=fail_run hK m ho c n;exact⟨U,S.next,k1,k2,lR _,by omega,k3⟩
theorem qjx (c k:UInt8):qa5 E0 .eql 5 false true (.int .u8 (c.toNat:Int)) (.int .u8 (k.toNat:Int))=some (.bool (decide (c=k))):=by
 rw[u8eq]
 congr 2
 rw[decide_eq_decide,<- UInt8.toNat_inj]
theorem ixB_idx (s:Bs) (i:Nat) (c:UInt8):ixB (s.drop i) c=match qji s i c with
 | none=>-1
 | some k=>((k-i:Nat):Int):=by
 unfold ixB qji;cases(s.drop i).findIdx? (fun x=>x==c)with
 | none=>rfl
 | some j=>simp
theorem qfo {s:Bs} {i k:Nat} {c:UInt8} (h:qji s i c=some k):i<=k/\k<s.length:=by
 unfold qji at h;cases hf:(s.drop i).findIdx? (fun x=>x==c)with
 | none=>rw[hf]at h; cases h
 | some j=>
  rw[hf]at h;obtain⟨hj,_⟩:=List.findIdx?_eq_some_iff_getElem.1 hf;rw[List.length_drop]at hj;simp at h;omega
theorem lt0 (z:Int):qa5 E0 .lss 3 false true (.int .i64 z) (.int .i64 0)=some (.bool (decide (z<0))):=by
 rw[binV_ii,intsV_lss]
theorem subC (k:Nat) {i:Nat} (hk:k<=i) (h:i<9223372036854775808):qa5 E0 .sub 3 false true (.int .i64 (i:Int)) (.int .i64 (k:Int))=some (.int .i64 ((i-k:Nat):Int)):=by
 rw[binV_ii,intsV_sub,show((i:Int)-(k:Int))=((i-k:Nat):Int) by omega,qdi (by omega) (by omega)]
theorem qc0 {s:Bs} {i:Nat} (h:i<s.length) (c:UInt8):atD s i [c]=decide (byt s i=c):=by
 unfold atD;rw[List.drop_eq_getElem_cons h,qfj h];show([byt s i]==[c])=_;rw[Bool.eq_iff_iff,beq_iff_eq,decide_eq_true_iff,List.cons.injEq];simp
theorem atD_len {s:Bs} {i:Nat} {t:Bs} (h:atD s i t=true):i<=s.length->i+t.length<=s.length:=by
 intro hi;unfold atD at h;rw[beq_iff_eq]at h;have:=congrArg List.length h;rw[List.length_take,List.length_drop]at this;omega
abbrev CloR (o:Option Nat) (S:St) (b i:Nat) (s:Bs) (vT vW:V) (r:Rs) (frm:Nat):Prop:=match o with
 | some j=>i<j/\j<=s.length/\∃U,r=some (.ret (.tuple []),U)/\Lx U b s j vT vW/\Grew (fun x=>x=b) S U/\U.next=S.next/\U.on=false
 | none=>Bad (fun x=>x=b) S r 19 frm
def CloOk (K:FuncId->Option KF) (n:Nat):Prop:=∀(d q:Nat) (S:St) (b i deep frm:Nat) (s:Bs) (vT vW:V) (nk:Ac->St->Rs) (ek:Nat->Ac->St->Rs),S.on=false->b<S.next->Lx S b s i vT vW->s.length<9223372036854770000->i<=s.length+1->0<deep->deep+n<9223372036854775000->n+8<=d->n<q->s.length+1<=n+i->
 (∀T,T.on=false->Bad (fun _=>False) T (ek 0 (fr 77 [(1,.int .i64 (frm:Int))]) T) 19 frm)->
 CloR (qjf n s i deep) S b i s vT vW (qkg (ev E0 K d) qa3 nk ek q (.ptr b 0) (.int .i64 (frm:Int)) (.int .i64 (deep:Int)) S) frm
def QuoOk (K:FuncId->Option KF) (n:Nat):Prop:=∀(d q:Nat) (S:St) (b i frm:Nat) (s:Bs) (vT vW:V) (nk:Ac->St->Rs) (ek:Nat->Ac->St->Rs),S.on=false->b<S.next->Lx S b s i vT vW->s.length<9223372036854770000->i<=s.length+1->n<9223372036854770000->n+8<=d->n<q->s.length+1<=n+i->
 (∀T,T.on=false->Bad (fun _=>False) T (ek 0 (fr 34 [(1,.int .i64 (frm:Int))]) T) 19 frm)->
 CloR (quoD n s i) S b i s vT vW (L98_3 (ev E0 K d) qa3 nk ek q (.ptr b 0) (.int .i64 (frm:Int)) S) frm
theorem bad0 (h:Bad (fun _=>False) S r c n):Bad W S r c n:=h.mono fun _ h=>h.elim
theorem clo_call (hK:RefL K) {n:Nat} (hC:CloOk K n) (d:Nat) (S:St) (b i frm:Nat) (s:Bs) (vT vW:V) (ho:S.on=false) (hb:b<S.next) (h:Lx S b s i vT vW) (hs:s.length<9223372036854770000) (hi:i<=s.length+1) (hn:n<9223372036854770000) (hd:n+8<=d) (hr:n<qa3) (hf:s.length+1<=n+i) :
 CloR (qjf n s i 1) S b i s vT vW ((ev E0 K (d+1)).f 88 [.ptr b 0,.int .i64 (frm:Int)] S) frm:=by
 obtain⟨d',rfl⟩:∃d',d=d'+1:=⟨d-1,by omega⟩
 have hek:∀T:St,T.on=false->Bad (fun _=>False) T (exB 0 (R88_0 (ev E0 K (d'+1)) qa3 (qbu E0 (ev E0 K (d'+1)) Tryd.f88) qav) qav 0 (fr 77 [(1,.int .i64 (frm:Int))]) T) 19 frm:=fun T hT=>by
  rw[exB_same,R88_0_eq];exact(qc4 hK d' hT 19 frm).callP _
 have:=hC (d'+1) qa3 S b i 1 frm s vT vW (R88_0 (ev E0 K (d'+1)) qa3 (qbu E0 (ev E0 K (d'+1)) Tryd.f88) qav) (exB 0 (R88_0 (ev E0 K (d'+1)) qa3 (qbu E0 (ev E0 K (d'+1)) Tryd.f88) qav) qav) ho hb h hs hi (by omega) (by omega) hd hr hf hek;have e:∀r,F88 (ev E0 K (d'+1)) qa3 (.ptr b 0) (.int .i64 (frm:Int)) S=some r->(ev E0 K (d'+1+1)).f 88 [.ptr b 0,.int .i64 (frm:Int)] S=some r:=fun r hr=>rv88 hK hr;have e2:=F88_eq (ev E0 K (d'+1)) qa3 (.ptr b 0) (.int .i64 (frm:Int)) S;cases hc:qjf n s i 1 with
 | some j=>
  rw[hc]at this;obtain⟨h1,h2,U,h3,h4⟩:=this;exact⟨h1,h2,U,e _ (e2.trans h3),h4⟩
 | none=>
  rw[hc]at this;obtain⟨U,x,h1,h2⟩:=this;exact⟨U,x,e _ (e2.trans h1),h2⟩
theorem quo_call (hK:RefL K) {n:Nat} (hC:QuoOk K n) (d:Nat) (S:St) (b i frm:Nat) (s:Bs) (vT vW:V) (ho:S.on=false) (hb:b<S.next) (h:Lx S b s i vT vW) (hs:s.length<9223372036854770000) (hi:i<=s.length+1) (hn:n<9223372036854770000) (hd:n+8<=d) (hr:n<qa3) (hf:s.length+1<=n+i) :
 CloR (quoD n s i) S b i s vT vW ((ev E0 K (d+1)).f 98 [.ptr b 0,.int .i64 (frm:Int)] S) frm:=by
 obtain⟨d',rfl⟩:∃d',d=d'+1:=⟨d-1,by omega⟩
 have hek:∀T:St,T.on=false->Bad (fun _=>False) T (exB 0 (R98_0 (ev E0 K (d'+1)) qa3 (qbu E0 (ev E0 K (d'+1)) Tryd.f98) qav) qav 0 (fr 34 [(1,.int .i64 (frm:Int))]) T) 19 frm:=fun T hT=>by
  rw[exB_same,R98_0_eq];exact(qc4 hK d' hT 19 frm).callP _
 have:=hC (d'+1) qa3 S b i frm s vT vW (R98_0 (ev E0 K (d'+1)) qa3 (qbu E0 (ev E0 K (d'+1)) Tryd.f98) qav) (exB 0 (R98_0 (ev E0 K (d'+1)) qa3 (qbu E0 (ev E0 K (d'+1)) Tryd.f98) qav) qav) ho hb h hs hi hn hd hr hf hek;have e:∀r,F98 (ev E0 K (d'+1)) qa3 (.ptr b 0) (.int .i64 (frm:Int)) S=some r->(ev E0 K (d'+1+1)).f 98 [.ptr b 0,.int .i64 (frm:Int)] S=some r:=fun r hr=>rv98 hK hr;have e2:=F98_eq (ev E0 K (d'+1)) qa3 (.ptr b 0) (.int .i64 (frm:Int)) S;cases hc:quoD n s i with
 | some j=>
  rw[hc]at this;obtain⟨h1,h2,U,h3,h4⟩:=this;exact⟨h1,h2,U,e _ (e2.trans h3),h4⟩
 | none=>
  rw[hc]at this;obtain⟨U,x,h1,h2⟩:=this;exact⟨U,x,e _ (e2.trans h1),h2⟩
theorem fwd {o:Option Nat} {b i i':Nat} {s:Bs} {vT vW:V} {S T:St} {r r':Rs} {frm:Nat} (he:r=r') (g:Grew (fun x=>x=b) S T) (hn:T.next=S.next) (hi:i<=i') (h:CloR o T b i' s vT vW r' frm):CloR o S b i s vT vW r frm:=by
 subst he;cases o with
 | some j=>
  obtain⟨h1,h2,U,h3,h4,h5,h6,h7⟩:=h;exact⟨by omega,h2,U,h3,h4,g.trans h5,h6.trans hn,h7⟩
 | none=>exact Bad.after g h
theorem clo_step (hK:RefL K) {n:Nat} (hC:CloOk K n) (hQ:QuoOk K n) (hn0:n<9223372036854770000):CloOk K (n+1):=by
 intro d q S b i deep frm s vT vW nk ek ho hb h hs hi hdp hdn hd hq hf hek;obtain⟨d',rfl⟩:∃d',d=d'+8:=⟨d-8,by omega⟩
 obtain⟨q',rfl⟩:∃q',q=q'+1:=⟨q-1,by omega⟩
 unfold qjf;by_cases hlt:i<s.length
 . rw[iP hlt]
   obtain⟨U,k1,k2,k3,k4,k5⟩:=h.bump ho 1 (by omega);have hbU:b<U.next:=by omega
   have go:∀(U':St) (i' deep':Nat),U'.on=false->Grew (fun x=>x=b) S U'->U'.next=S.next->Lx U' b s i' vT vW->i<i'->i'<=s.length+1->0<deep'->deep'<=deep+1->∀r,r=qkg (ev E0 K (d'+8)) qa3 nk ek q' (.ptr b 0) (.int .i64 (frm:Int)) (.int .i64 (deep':Int)) U'->
    CloR (qjf n s i' deep') S b i s vT vW (r) frm:=fun U' i' deep' o1 g1 n1 l1 a1 a2 a3 a4 r hr=>
    fwd (i:=i) (i':=i') hr g1 n1 (by omega) (hC (d'+8) q' U' b i' deep' frm s vT vW nk ek o1 (by omega) l1 hs a2 a3 (by omega) (by omega) (by omega) (by omega) hek)
   have hL:qkg (ev E0 K (d'+8)) qa3 nk ek (q'+1) (.ptr b 0) (.int .i64 (frm:Int)) (.int .i64 (deep:Int)) S=_:=L88_4_eq ..;rw[qed hK (d'+7) ho h,callP_ret,dT hlt,ifK_bool,cT,h.o0 ho]at hL;dsimp only at hL;rw[h.l1 ho]at hL;dsimp only at hL;rw[qf5 _ _ _ hlt,oB,qbq (by rfl),qg8,llg,qd2 ho,qfj hlt,show V.int .i64 1=.int .i64 ((1:Nat):Int)from rfl,k1]at hL;dsimp only at hL;rw[show V.int .u8 92=.int .u8 ((92:UInt8).toNat:Int)from rfl,qjx,oB,ifK_bool]at hL;by_cases h92:byt s i=92
   . rw[iP h92]
     obtain⟨U2,j1,j2,j3,j4,j5⟩:=k2.bump k5 1 (by omega);rw[dT h92,cT,j1]at hL;exact go U2 (i+2) deep j5 (k3.trans j3) (by omega) j2 (by omega) (by omega) hdp (by omega) _ hL
   . rw[iN h92]
     rw[dF h92,cF,show V.int .u8 39=.int .u8 ((39:UInt8).toNat:Int)from rfl,qjx,oB,ifK_bool]at hL;by_cases h39:byt s i=39
     . rw[iP h39]
       rw[dT h39,cT,k2.o0 k5]at hL;dsimp only at hL;rw[k2.l1 k5]at hL;dsimp only at hL;rw[qg8,llg,qb9 und9 s (qcw .i64 (by omega)) (lR _),oB,List.take_of_length_le (by rw[List.length_drop]; omega)]at hL;dsimp only at hL;rw[qg8,llg,ix_run hK (d'+6),qc8,qbq (by rfl),qg8,llg,qd2 k5,lt0,oB,ifK_bool,ixB_idx]at hL;cases hx:qji s (i+1) 39 with
       | none=>
        rw[hx]at hL;dsimp only at hL;rw[show decide ((-1:Int)<0)=true from rfl,cT]at hL;rw[hL];exact Bad.after k3 (bad0 ((qc4 hK (d'+7) k5 19 frm).callP _))
       | some k=>
        obtain⟨x1,x2⟩:=qfo hx;obtain⟨U2,j1,j2,j3,j4,j5⟩:=k2.bumpV k5 (k-(i+1)+1) (by omega);rw[hx]at hL;dsimp only at hL;rw[show decide ((((k-(i+1):Nat):Int))<0)=false by simp,cF]at hL;have hsw:(V.int .i64 ((1:Nat):Int))=V.int .i64 1:=rfl;rw[k2.r1 k5]at hL;dsimp only at hL;rw[addC 1 (by omega),oB]at hL;have:=j1;rw[addN (by omega),oB]at hL;obtain⟨U3,z1,z2,z3,z4,z5⟩:=k2.set k5 (i+1+(k-(i+1)+1));rw[z1]at hL;rw[show i+1+(k-(i+1)+1)=k+1 by omega]at z2;exact go U3 (k+1) deep z5 (k3.trans z3) (by omega) z2 (by omega) (by omega) hdp (by omega) _ hL
     . rw[iN h39]
       rw[dF h39,cF,show V.int .u8 34=.int .u8 ((34:UInt8).toNat:Int)from rfl,qjx,oB,ifK_bool]at hL;by_cases h34:byt s i=34
       . rw[iP h34]
         rw[dT h34,cT]at hL;have hqc:=quo_call hK hQ (d'+7) U b (i+1) frm s vT vW k5 hbU k2 hs (by omega) hn0 (by omega) (by unfold qa3; omega) (by omega);cases hqd:quoD n s (i+1)with
         | none=>
          rw[hqd]at hqc;dsimp only;rw[hL];exact Bad.after k3 (hqc.callP _)
         | some j=>
          rw[hqd]at hqc;obtain⟨a1,a2,U2,a3,a4,a5,a6,a7⟩:=hqc;rw[a3,callP_ret]at hL;dsimp only;exact go U2 j deep a7 (k3.trans a5) (by omega) a4 (by omega) (by omega) hdp (by omega) _ hL
       . rw[iN h34]
         rw[dF h34,cF,show V.int .u8 40=.int .u8 ((40:UInt8).toNat:Int)from rfl,qjx,oB,ifK_bool]at hL;by_cases h40:byt s i=40
         . rw[iP h40]
           rw[dT h40,cT,addC 1 (by omega),oB]at hL;exact go U (i+1) (deep+1) k5 k3 k4 k2 (by omega) (by omega) (by omega) (by omega) _ hL
         . rw[iN h40]
           rw[dF h40,cF,show V.int .u8 41=.int .u8 ((41:UInt8).toNat:Int)from rfl,qjx,oB,ifK_bool]at hL;by_cases h41:byt s i=41
           . rw[iP h41]
             rw[dT h41,cT,subC 1 (by omega) (by omega),oB,eql0,oB,ifK_bool]at hL;by_cases h1:deep=1
             . rw[iP h1]
               rw[dT (by omega),cT]at hL;exact⟨by omega,by omega,U,hL,k2,k3,k4,k5⟩
             . rw[iN h1]
               rw[dF (by omega),cF]at hL;exact go U (i+1) (deep-1) k5 k3 k4 k2 (by omega) (by omega) (by omega) (by omega) _ hL
           . rw[iN h41]
             rw[dF h41,cF]at hL;exact go U (i+1) deep k5 k3 k4 k2 (by omega) (by omega) hdp (by omega) _ hL
 . rw[iN hlt]
   show Bad _ _ _ _ _;rw[L88_4_eq,qed hK (d'+7) ho h,callP_ret,dF hlt,ifK_bool,cF];exact bad0 (hek S ho)
theorem quo_step (hK:RefL K) {n:Nat} (hC:CloOk K n) (hQ:QuoOk K n) (hn0:n<9223372036854760000):QuoOk K (n+1):=by
 intro d q S b i frm s vT vW nk ek ho hb h hs hi hdn hd hq hf hek;obtain⟨d',rfl⟩:∃d',d=d'+8:=⟨d-8,by omega⟩
 obtain⟨q',rfl⟩:∃q',q=q'+1:=⟨q-1,by omega⟩
 unfold quoD;have hL:L98_3 (ev E0 K (d'+8)) qa3 nk ek (q'+1) (.ptr b 0) (.int .i64 (frm:Int)) S=_:=L98_3_eq ..;by_cases hlt:i<s.length
 . rw[iP hlt]
   have go:∀(U':St) (i':Nat),U'.on=false->Grew (fun x=>x=b) S U'->U'.next=S.next->Lx U' b s i' vT vW->i<i'->i'<=s.length+1->∀r,r=L98_3 (ev E0 K (d'+8)) qa3 nk ek q' (.ptr b 0) (.int .i64 (frm:Int)) U'->
    CloR (quoD n s i') S b i s vT vW (r) frm:=fun U' i' o1 g1 n1 l1 a1 a2 r hr=>
    fwd (i:=i) (i':=i') hr g1 n1 (by omega) (hQ (d'+8) q' U' b i' frm s vT vW nk ek o1 (by omega) l1 hs a2 (by omega) (by omega) (by omega) (by omega) hek)
   rw[qed hK (d'+7) ho h,callP_ret,dT hlt,ifK_bool,cT]at hL;have hbeg:∀t,begD (s.drop i) t=atD s i t:=fun t=>rfl;by_cases h92:byt s i=92
   . rw[iP h92]
     obtain⟨U,k1,k2,k3,k4⟩:=qb3 hK (d'+4) ho h (by omega) (t:=[92]) (by simp; omega) (by rw[hbeg,qc0 hlt,dT h92]);have k5:=k3.on.trans ho;obtain⟨U2,j1,j2,j3,j4,j5⟩:=k2.bump k5 1 (by simp; omega);rw[k1,callP_ret,ifK_bool,cT,show V.int .i64 1=.int .i64 ((1:Nat):Int)from rfl,j1]at hL;exact go U2 (i+2) j5 (k3.trans j3) (by omega) j2 (by omega) (by omega) _ hL
   . rw[iN h92]
     rw[qbc hK (d'+4) ho h (by omega) (t:=[92]) (by rw[hbeg,qc0 hlt,dF h92]),callP_ret,ifK_bool,cF]at hL;by_cases h34:byt s i=34
     . rw[iP h34]
       obtain⟨U,k1,k2,k3,k4⟩:=qb3 hK (d'+4) ho h (by omega) (t:=[34]) (by simp; omega) (by rw[hbeg,qc0 hlt,dT h34]);rw[k1,callP_ret,ifK_bool,cT]at hL;exact⟨by omega,by omega,U,hL,k2,k3,k4,k3.on.trans ho⟩
     . rw[iN h34]
       rw[qbc hK (d'+4) ho h (by omega) (t:=[34]) (by rw[hbeg,qc0 hlt,dF h34]),callP_ret,ifK_bool,cF]at hL;cases h36:atD s i [36,40]with
       | true=>
        obtain⟨U,k1,k2,k3,k4⟩:=qb3 hK (d'+4) ho h (by omega) (t:=[36,40]) (by simp; omega) h36;have hle:=atD_len h36 (by omega);have k5:=k3.on.trans ho;simp only[List.length_cons,List.length_nil]at k2 hle;rw[k1,callP_ret,ifK_bool,cT]at hL;have hqc:=clo_call hK hC (d'+7) U b (i+2) frm s vT vW k5 (by omega) k2 hs (by omega) (by omega) (by omega) (by unfold qa3; omega) (by omega);rw[iP rfl];cases hqd:qjf n s (i+2) 1 with
        | none=>
         rw[hqd]at hqc;dsimp only;rw[hL];exact Bad.after k3 (hqc.callP _)
        | some j=>
         rw[hqd]at hqc;obtain⟨a1,a2,U2,a3,a4,a5,a6,a7⟩:=hqc;rw[a3,callP_ret]at hL;dsimp only;exact go U2 j a7 (k3.trans a5) (by omega) a4 (by omega) (by omega) _ hL
       | false=>
        rw[iN (by simp)];obtain⟨U,k1,k2,k3,k4,k5⟩:=h.bump ho 1 (by omega);rw[qbc hK (d'+4) ho h (by omega) (t:=[36,40]) h36,callP_ret,ifK_bool,cF,show V.int .i64 1=.int .i64 ((1:Nat):Int)from rfl,k1]at hL;exact go U (i+1) k5 k3 k4 k2 (by omega) (by omega) _ hL
 . rw[iN hlt]
   show Bad _ _ _ _ _;rw[hL,qed hK (d'+7) ho h,callP_ret,dF hlt,ifK_bool,cF];exact bad0 (hek S ho)
theorem clo_zero (hK:RefL K):CloOk K 0:=by
 intro d q S b i deep frm s vT vW nk ek ho hb h hs hi hdp hdn hd hq hf hek;obtain⟨d',rfl⟩:∃d',d=d'+8:=⟨d-8,by omega⟩
 obtain⟨q',rfl⟩:∃q',q=q'+1:=⟨q-1,by omega⟩
 show Bad _ _ _ _ _;rw[L88_4_eq,qed hK (d'+7) ho h,callP_ret,dF (by omega),ifK_bool,cF];exact bad0 (hek S ho)
theorem quo_zero (hK:RefL K):QuoOk K 0:=by
 intro d q S b i frm s vT vW nk ek ho hb h hs hi hdn hd hq hf hek;obtain⟨d',rfl⟩:∃d',d=d'+8:=⟨d-8,by omega⟩
 obtain⟨q',rfl⟩:∃q',q=q'+1:=⟨q-1,by omega⟩
 show Bad _ _ _ _ _;rw[L98_3_eq,qed hK (d'+7) ho h,callP_ret,dF (by omega),ifK_bool,cF];exact bad0 (hek S ho)
theorem clo_quo (hK:RefL K):∀n,n<9223372036854760000->CloOk K n/\QuoOk K n
 | 0,_=>⟨clo_zero hK,quo_zero hK⟩
 | n+1,hn=>by
  obtain⟨h1,h2⟩:=clo_quo hK n (by omega);exact⟨clo_step hK h1 h2 (by omega),quo_step hK h1 h2 (by omega)⟩
theorem closed_run (hK:RefL K) (n d:Nat) {S:St} {b i:Nat} (frm:Nat) {s:Bs} {vT vW:V} (ho:S.on=false) (hb:b<S.next) (h:Lx S b s i vT vW) (hs:s.length<9223372036854770000) (hi:i<=s.length+1) (hn:n<9223372036854760000) (hd:n+8<=d) (hf:s.length+1<=n+i) :
 CloR (qjf n s i 1) S b i s vT vW ((ev E0 K (d+1)).f 88 [.ptr b 0,.int .i64 (frm:Int)] S) frm:=
 clo_call hK (clo_quo hK n hn).1 d S b i frm s vT vW ho hb h hs hi (by omega) hd (by unfold qa3; omega) hf
end
section
variable {S U T:St}
def RV (S:St) (v:V) (e z:Nat) (ts:List (Tr V)):Prop:=(ts=[]/\v=.nilslice)\/∃r,RowAt S r e z ts/\r<S.next/\0<ts.length/\(v=.oslice r 0 ts.length z\/v=.slice r 0 ts.length ts.length)
theorem RV.len {v:V} {e z:Nat} {ts:List (Tr V)} (h:RV S v e z ts) (T:St):lnS v T=some (.int .i64 (ts.length:Int),T):=by
 rcases h with⟨rfl,rfl⟩|⟨r,_,_,_,rfl|rfl⟩<;>rfl
theorem RV.at {v:V} {e z:Nat} {ts:List (Tr V)} (h:RV S v e z ts) {i:Nat} (hi:i<ts.length):∃r,qah v=some r/\ixP z v (.int .i64 (i:Int))=some (.ptr r (i*z))/\RowAt S r e z ts/\r<S.next:=by
 rcases h with⟨rfl,_⟩|⟨r,h1,h2,h3,rfl|rfl⟩
 . simp at hi
 . refine⟨r,rfl,?_,h1,h2⟩
   show(bif Nat.blt i ts.length then some (V.ptr r (0+i*z))else none)=_;rw[blt_true.2 hi,cT,Nat.zero_add]
 . refine⟨r,rfl,?_,h1,h2⟩
   show(bif Nat.blt i ts.length then some (V.ptr r (0+i*z))else none)=_;rw[blt_true.2 hi,cT,Nat.zero_add]
theorem RV.grew {W:Nat->Prop} {v:V} {e z:Nat} {ts:List (Tr V)} (h:RV S v e z ts) (hw:∀r,qah v=some r->¬W r) (g:Grew W S U):RV U v e z ts:=by
 rcases h with h|⟨r,h1,h2,h3,h4⟩
 . exact .inl h
 . exact .inr ⟨r,h1.grew h2 (hw r (by rcases h4 with rfl|rfl<;>rfl)) g,Nat.lt_of_lt_of_le h2 g.next,h3,h4⟩
theorem RV.blk_lt {v:V} {e z:Nat} {ts:List (Tr V)} (h:RV S v e z ts) {r:Nat} (hr:qah v=some r):r<S.next:=by
 rcases h with⟨_,rfl⟩|⟨r',h1,h2,h3,rfl|rfl⟩
 . cases hr
 . cases hr; exact h2
 . cases hr; exact h2
theorem nw_log {s:St} (ho:s.on=false) (o:O):(nw s o).log=s.log:=by
 unfold nw;rw[qau ho]; rfl
def PV (S:St) (z:Nat) (y:V) (m:List (Tr V)):Prop:=lenV y=some m.length/\qb7 z m.length y S=some (m,S)
theorem RowAt.all (ho:S.on=false) {b e z:Nat} {l:List (Tr V)} (h:RowAt S b e z l) (i n:Nat) (hn:i+n<=l.length):ldN b z n (i*z) S=some ((l.drop i).take n,S):=h.ldN ho n i hn
theorem sizeB_off (ho:S.on=false) {r e z:Nat} {l:List (Tr V)} (h:RowAt S r e z l):qic S r=some (z*l.length,S):=by
 obtain⟨c,h1,_⟩:=h.row;unfold qic;rw[h1];simp only[blt_true.2 h.fit,cT,qau ho]
theorem RV.cat {v y:V} {e z B:Nat} {ts m:List (Tr V)} (h:RV S v e z ts) (ho:S.on=false) (h0:0<z) (hy:PV S z y m) (hl:ts.length+m.length<=100000) (hB:B+z<=1000):∃v' U,apP e z B v y S=some (v',U)/\RV U v' e z (ts++m)/\Grew (fun x=>qah v=some x) S U/\(∀r,qah v'=some r->qah v=some r\/S.next<=r)/\U.log=S.log:=by
 obtain⟨y1,y2⟩:=hy;have hlen:lenV v=some ts.length:=by rcases h with⟨rfl,rfl⟩|⟨r,_,_,_,rfl|rfl⟩<;>rfl
 have hap:apP e z B v y S=qcs e z m.length v y S:=by
  have hmx:(ts.length+m.length)*(B+z+1)<qai:=by
   have:(ts.length+m.length)*(B+z+1)<=100000*1001:=Nat.mul_le_mul hl (by omega);unfold qai; omega
  unfold apP;rw[y1,oB,hlen,oB,blt_true.2 hmx,cT]
 have hfit:z*(ts++m).length<big:=by
  have:z*(ts.length+m.length)<=1000*100000:=Nat.mul_le_mul (by omega) hl;rw[lAq]; unfold big; omega
 rw[hap];unfold qcs;rw[y2,oB];rcases Nat.eq_zero_or_pos m.length with hm|hm
 . have hme:m=[]:=List.eq_nil_of_length_eq_zero hm
   subst hme;refine⟨v,S,?_,by rw[List.append_nil]; exact h,Grew.refl _ _,fun r hr=>.inl hr,rfl⟩;rcases h with⟨rfl,rfl⟩|⟨r,h1,h2,h3,rfl|rfl⟩
   . rfl
   . simp only[List.length_nil,Nat.add_zero,Nat.beq_refl,cT,Nat.zero_add]
     rw[sizeB_off ho h1,oB];simp only;rw[ble_true.2 (show ts.length*z<=z*ts.length by rw[Nat.mul_comm]; exact lR _),cT]; rfl
   . simp only[List.length_nil,Nat.add_zero]
     rw[ble_true.2 (lR _),cT]; rfl
 . rcases h with⟨rfl,rfl⟩|⟨r,h1,h2,h3,rfl|rfl⟩
   . refine⟨.oslice S.next 0 m.length z,qan S e z m,?_,.inr ⟨S.next,by rw[List.nil_append]; exact qev ho h0 (by simpa using hfit),by show S.next<S.next+1; omega,by simpa using hm,.inl (by rw[List.nil_append])⟩,(qeo ho _ _),fun r hr=>by cases hr; exact .inr (lR _),nw_log ho _⟩
     simp only;rw[show Nat.beq m.length 0=false from beq_false.2 (by omega),cF]
   . obtain⟨c,hc1,hc2⟩:=h1.row
     have hf1:=h1.fit;refine⟨.oslice S.next 0 (ts++m).length z,nw (S.put r .dead) (.cells e z (ts.length+m.length) false (Ev.addL c m ts.length)),?_,.inr ⟨S.next,?_,by show S.next<S.next+1; omega,by rw[lAq]; omega,.inl rfl⟩,?_,fun x hx=>by cases hx; exact .inr (lR _),nw_log (s:=S.put r .dead) ho _⟩
     . simp only[Nat.beq_refl,cT,Nat.zero_add]
       rw[sizeB_off ho h1,oB];simp only
       rw[show Nat.ble ((ts.length+m.length)*z) (z*ts.length)=false from by
        rw[qli,Nat.add_mul,Nat.mul_comm z];have:0<m.length*z:=Nat.mul_pos hm h0
        omega,cF]
       unfold qjh;rw[hc1];simp only[Nat.beq_refl,Bool.not_true,Bool.or_self,cF,show Nat.beq 0 0=true from rfl,blt_true.2 hf1,Bool.and_self,cT];rw[qdd,lAq];unfold setO;rw[qau ho]
     . refine qfv (s:=S.put r .dead) ho h0 (by rw[lAq]) (by rw[lAq]at hfit; exact hfit) fun i t hi=>?_
       rw[Ev.addL_get];have hlt:=(List.getElem?_eq_some_iff.1 hi).1;rw[lAq]at hlt;by_cases hc:ts.length<=i
       . rw[iP ⟨hc,hlt⟩]
         rw[List.getElem?_append_right hc]at hi;exact hi
       . rw[iN (fun h=>hc h.1)]
         rw[List.getElem?_append_left (by omega)]at hi;exact hc2 i t hi
     . exact⟨by show S.next<=S.next+1; omega,(nw_on (s:=S.put r .dead) ho _).trans ho.symm,fun x hx hw=>by
        rw[qgo,iN (by show x≠S.next; omega),qft,iN (fun q=>hw (by rw[q]; rfl))]⟩
   . have hld:=RowAt.all ho h1 0 ts.length (by omega)
     rw[Nat.zero_mul,List.drop_zero,List.take_of_length_le (lR _)]at hld;refine⟨.oslice S.next 0 (ts++m).length z,qan S e z (ts++m),?_,.inr ⟨S.next,qev ho h0 hfit,by show S.next<S.next+1; omega,by rw[lAq]; omega,.inl rfl⟩,(qeo ho _ _),fun r hr=>by cases hr; exact .inr (lR _),nw_log ho _⟩;simp only;rw[show Nat.ble (ts.length+m.length) ts.length=false from by rw[qli]; omega,cF,show qb7 z ts.length (.slice r 0 ts.length ts.length) S=_ from hld,oB];simp only;rw[lAq]
theorem RV.pv (ho:S.on=false) {v:V} {e z:Nat} {ts:List (Tr V)} (h:RV S v e z ts):PV S z v ts:=by
 rcases h with⟨rfl,rfl⟩|⟨r,h1,h2,h3,rfl|rfl⟩
 . exact⟨rfl,rfl⟩
 . have:=RowAt.all ho h1 0 ts.length (by omega)
   rw[Nat.zero_mul,List.drop_zero,List.take_of_length_le (lR _)]at this;exact⟨rfl,this⟩
 . have:=RowAt.all ho h1 0 ts.length (by omega)
   rw[Nat.zero_mul,List.drop_zero,List.take_of_length_le (lR _)]at this;exact⟨rfl,this⟩
theorem RV.one {r e z:Nat} {t:Tr V} (h:RowAt S r e z [t]) (hr:r<S.next):RV S (.slice r 0 1 1) e z [t]:=.inr ⟨r,h,hr,by simp,.inr rfl⟩
theorem rv_nil (e z:Nat):RV S .nilslice e z []:=.inl ⟨rfl,rfl⟩
theorem qj5 (ho:S.on=false) (e z:Nat) (zt:Tr V) (t:Tr V) (h0:0<z) (hz:z<1000):∃y T,bsP e z 1 zt [(0,.agg z t)] S=some (y,T)/\RV T y e z [t]/\qah y=some S.next/\Grew (fun _=>False) S T/\T.next=S.next+1:=by
 have hrow:RowAt (nw S (.cells e z 1 false ((Tr.tab 1 1 fun _=>zt).set t 0))) S.next e z [t]:=by
  refine qfv ho h0 rfl (by unfold big; omega) fun i u h=>?_;rw[Tr.get_set];cases i with
  | zero=>simpa using h
  | succ i=>simp at h
 have hg:Grew (fun _=>False) S (nw S (.cells e z 1 false ((Tr.tab 1 1 fun _=>zt).set t 0))):=qeo ho _ _;refine⟨.slice S.next 0 1 1,_,?_,RV.one hrow (by show S.next<S.next+1; omega),rfl,hg,rfl⟩;unfold bsP qgi qgi;simp only[V.size,qaa,V.cells,Nat.beq_refl,nF,Bool.and_true,show Nat.blt 0 1=true from rfl,cT,Tr.setC_eq,oB]
theorem rv_byte (ho:S.on=false) (c:UInt8):∃y T,bsP 5 1 1 (Ev.one (.int .u8 0)) [(0,.int .u8 (c.toNat:Int))] S=some (y,T)/\RV T y 5 1 ([c].map qc6)/\qah y=some S.next/\Grew (fun _=>False) S T/\T.next=S.next+1:=by
 obtain⟨T,h1,h2,h3,h4⟩:=bsP_byte ho 5 c;exact⟨_,T,h1,RV.one h2 (by omega),rfl,h3,h4⟩
theorem und79:und E0 79=some (.slice 5):=by kernel_rfl
theorem conv_rv (ho:S.on=false) {v:V} {bs:Bs} (h:RV S v 5 1 (bs.map qc6)) (hb:bs≠[]):qc2 E0 79 9 v S=some (sv bs,S):=by
 have hp:qb7 1 bs.length v S=some (bs.map qc6,S):=by
  have:=(h.pv ho).2
  rwa [lM]at this
 have hl:lenV v=some bs.length:=by
  have:=(h.pv ho).1
  rwa [lM]at this
 rcases h with⟨h,_⟩|⟨r,h1,h2,h3,rfl|rfl⟩
 . exact absurd (List.map_eq_nil_iff.1 h) hb
 . unfold qc2
   rw[und79,und9];simp only[oB,qcr,Bool.or_self,cF,und5,hl,hp,qi7];rfl
 . have:=convert_row (cap:=bs.length) ho und79 und5 und9 h1 (off:=0) (len:=bs.length) (by omega)
   rw[lM];rw[List.drop_zero,List.take_of_length_le (lR _)]at this;exact this
def qdo (k:Nat) (t o:Bs) (q:Bool) (v:V):Tr V:=Tr.ofListFrom .nil [.int .i64 (k:Int),sv t,sv o,.bool q,v,.nilptr] 0
mutual
def PtAt (S:St) (Q:Nat->Prop):Part->Tr V->Prop
 | .mk k t o q w,c=>∃v rows,c=qdo k t o q v/\RV S v 49 6 rows/\PrAt S Q w rows/\∀r,qah v=some r->Q r
def PrAt (S:St) (Q:Nat->Prop):List Part->List (Tr V)->Prop
 | [],rows=>rows=[]
 | p::l,rows=>∃c rest,rows=c::rest/\PtAt S Q p c/\PrAt S Q l rest
end
mutual
theorem PtAt.mono {Q Q':Nat->Prop} (hQ:∀x,Q x->Q' x):∀{p:Part} {c:Tr V},PtAt S Q p c->PtAt S Q' p c
 | .mk k t o q w,c,h=>by
  simp only[PtAt]at h ⊢;obtain⟨v,rows,h1,h2,h3,h4⟩:=h;exact⟨v,rows,h1,h2,PrAt.mono hQ h3,fun r hr=>hQ r (h4 r hr)⟩
theorem PrAt.mono {Q Q':Nat->Prop} (hQ:∀x,Q x->Q' x):∀{l:List Part} {rows:List (Tr V)},PrAt S Q l rows->PrAt S Q' l rows
 | [],rows,h=>by simp only[PrAt]at h ⊢; exact h
 | p::l,rows,h=>by
  simp only[PrAt]at h ⊢;obtain⟨c,rest,h1,h2,h3⟩:=h;exact⟨c,rest,h1,PtAt.mono hQ h2,PrAt.mono hQ h3⟩
end
mutual
theorem PtAt.grew {W Q:Nat->Prop} (g:Grew W S U) (hW:∀x,Q x->¬W x):∀{p:Part} {c:Tr V},PtAt S Q p c->PtAt U Q p c
 | .mk k t o q w,c,h=>by
  simp only[PtAt]at h ⊢;obtain⟨v,rows,h1,h2,h3,h4⟩:=h;exact⟨v,rows,h1,h2.grew (fun r hr=>hW r (h4 r hr)) g,PrAt.grew g hW h3,h4⟩
theorem PrAt.grew {W Q:Nat->Prop} (g:Grew W S U) (hW:∀x,Q x->¬W x):∀{l:List Part} {rows:List (Tr V)},PrAt S Q l rows->PrAt U Q l rows
 | [],rows,h=>by simp only[PrAt]at h ⊢; exact h
 | p::l,rows,h=>by
  simp only[PrAt]at h ⊢;obtain⟨c,rest,h1,h2,h3⟩:=h;exact⟨c,rest,h1,PtAt.grew g hW h2,PrAt.grew g hW h3⟩
end
theorem PrAt.len {Q:Nat->Prop}:∀{l:List Part} {rows:List (Tr V)},PrAt S Q l rows->rows.length=l.length
 | [],rows,h=>by simp only[PrAt]at h; rw[h]; rfl
 | p::l,rows,h=>by
  simp only[PrAt]at h;obtain⟨c,rest,h1,h2,h3⟩:=h;rw[h1,List.length_cons,List.length_cons,PrAt.len h3]
theorem PrAt.append {Q:Nat->Prop}:∀{l m:List Part} {rows rows':List (Tr V)},PrAt S Q l rows->PrAt S Q m rows'->PrAt S Q (l++m) (rows++rows')
 | [],m,rows,rows',h,k=>by simp only[PrAt]at h; rw[h]; exact k
 | p::l,m,rows,rows',h,k=>by
  simp only[PrAt]at h;obtain⟨c,rest,rfl,h2,h3⟩:=h;rw[List.cons_append,List.cons_append];simp only[PrAt];exact⟨c,rest++rows',rfl,h2,PrAt.append h3 k⟩
theorem prAt_nil {Q:Nat->Prop}:PrAt S Q [] []:=by simp only[PrAt]
theorem prAt_one {Q:Nat->Prop} {p:Part} {c:Tr V} (h:PtAt S Q p c):PrAt S Q [p] [c]:=by
 simp only[PrAt];exact⟨c,[],rfl,h,rfl⟩
theorem qdm {Q:Nat->Prop} (k:Nat) (t o:Bs) (q:Bool):PtAt S Q (.mk k t o q []) (qdo k t o q .nilslice):=by
 simp only[PtAt,PrAt];exact⟨.nilslice,[],rfl,rv_nil _ _,rfl,fun r hr=>by cases hr⟩
end
end Go.Proofs.YtafbipadnnmccaaDoor.W
namespace Go.Proofs.YtafbipadnnmccaaDoor.W
open Go.Proofs.YtafbipadnnmccaaDoor.Ev
theorem qbg {s:Bs} {i:Nat} {t:Bs} (h:atD s i t=true) (ht:t≠[]):i+t.length<=s.length:=by
 unfold atD at h;rw[beq_iff_eq]at h;have:=congrArg List.length h;rw[List.length_take,List.length_drop]at this;have:0<t.length:=List.length_pos_iff.2 ht;omega
theorem clo_le:∀n,(∀s i d j,qjf n s i d=some j->i<j/\j<=s.length)/\(∀s i j,quoD n s i=some j->i<j/\j<=s.length)
 | 0=>⟨fun s i d j h=>by(unfold qjf at h; cases h),fun s i j h=>by(unfold quoD at h; cases h)⟩
 | n+1=>by
  obtain⟨hC,hQ⟩:=clo_le n;refine⟨fun s i d j h=>?_,fun s i j h=>?_⟩
  . unfold qjf at h
    split at h
    . split at h
      . have:=hC _ _ _ _ h; omega
      . split at h
        . split at h
          . cases h
          . rename_i k hk
            have:=qfo hk;have:=hC _ _ _ _ h; omega
        . split at h
          . split at h
            . cases h
            . rename_i k hk
              have:=hQ _ _ _ hk;have:=hC _ _ _ _ h; omega
          . split at h
            . have:=hC _ _ _ _ h; omega
            . split at h
              . split at h
                . cases h; omega
                . have:=hC _ _ _ _ h; omega
              . have:=hC _ _ _ _ h; omega
    . cases h
  . unfold quoD at h
    split at h
    . split at h
      . have:=hQ _ _ _ h; omega
      . split at h
        . cases h; omega
        . split at h
          . split at h
            . cases h
            . rename_i k hk
              have:=hC _ _ _ _ hk;have:=hQ _ _ _ h; omega
          . have:=hQ _ _ _ h; omega
    . cases h
theorem flu_len (w:Nat) (out:List Part) (text:Bs):(qkw w out text).length<=out.length+text.length:=by
 unfold qkw;split
 . omega
 . rename_i h
   have:0<text.length:=List.length_pos_iff.2 h;rw[lAq,List.length_singleton]; omega
theorem par_le (s:Bs) (i:Nat) (m:Bs) (h:qcv (s.drop i) m≠0):i+qcv (s.drop i) m<=s.length:=by
 have:=qmq (s.drop i) m;rw[List.length_drop]at this;omega
theorem find_at {s:Bs} {k:Nat} {o:Bs} (h:(opsT.find? fun o=>atD s k o)=some o):atD s k o=true/\k+o.length<=s.length/\0<o.length:=by
 have h1:=List.find?_some h;have h2:=List.mem_of_find?_eq_some h
 have h3:o≠[]:=by
  rintro rfl;revert h2
  decide
 exact⟨h1,qbg h1 h3,List.length_pos_iff.2 h3⟩
theorem qet:∀n,(∀s w deep i out text l j,qar n s w deep i out text=.ok (l,j)->i<=s.length->i<=j/\j<=s.length/\l.length+i<=out.length+text.length+j)/\(∀s w deep i p j,dolD n s w deep i=.ok (some (p,j))->i<j/\j<=s.length)
 | 0=>⟨fun s w deep i out text l j h=>by(unfold qar at h; cases h),fun s w deep i p j h=>by(unfold dolD at h; cases h)⟩
 | n+1=>by
  obtain⟨hP,hD⟩:=qet n;refine⟨fun s w deep i out text l j h hi=>?_,fun s w deep i p j h=>?_⟩
  . unfold qar at h
    split at h
    . rename_i hlt
      have hf:=flu_len w out text;split at h
      . rename_i ha
        have:=qbg ha (by simp);have:=hP _ _ _ _ _ _ _ _ h (by simpa using this);omega
      . split at h
        . split at h
          . cases h
          . split at h
            . have:=hP _ _ _ _ _ _ _ _ h (by omega)
              have e:(text++(if(List.contains [36,96,92] (byt s (i+1))||byt s (i+1)==34&&w != 2)=true then []else [92])++[byt s (i+1)]).length<=text.length+2:=by
               simp only[lAq,List.length_singleton];split<;>simp
              omega
            . have:=hP _ _ _ _ _ _ _ _ h (by omega)
              simp only[lAq,List.length_singleton,List.length_nil]at this;omega
        . split at h
          . split at h
            . cases h
            . have:=hP _ _ _ _ _ _ _ _ h (by omega)
              simp only[lAq,List.length_singleton]at this;omega
            . rename_i p k hk
              have h1:=hD _ _ _ _ _ _ hk;have:=hP _ _ _ _ _ _ _ _ h (by omega);simp only[lAq,List.length_singleton,List.length_nil]at this;omega
          . split at h
            . cases h
            . split at h
              . split at h
                . cases h
                . rename_i k hk
                  have h1:=qfo hk;have:=hP _ _ _ _ _ _ _ _ h (by omega);simp only[lAq,List.length_singleton,List.length_nil]at this;omega
              . split at h
                . split at h
                  . cases h
                  . rename_i l' k hk
                    have h1:=hP _ _ _ _ _ _ _ _ hk (by omega);split at h
                    . rename_i ha
                      have h2:=qbg ha (by simp);have:=hP _ _ _ _ _ _ _ _ h (by simpa using h2);have e:(if l'.isEmpty=true then [Part.mk 1 [] [] true []]else l').length<=l'.length+1:=by split<;>simp
                      simp only[lAq,List.length_nil]at this h1;omega
                    . cases h
                . have:=hP _ _ _ _ _ _ _ _ h (by omega)
                  simp only[lAq,List.length_singleton]at this;omega
    . have hf:=flu_len w out text
      cases h;omega
  . unfold dolD at h
    split at h
    . cases h
    . split at h
      . split at h
        . cases h
        . rename_i k hk
          have:=(clo_le _).1 _ _ _ _ hk;cases h;omega
      . split at h
        . split at h
          . cases h
          . split at h
            . rename_i hc
              simp only[bA]at hc;have:=qbg hc.2 (by simp);simp only[List.length_singleton]at this;cases h;omega
            . dsimp only at h
              split at h
              . cases h
              . split at h
                . rename_i hc
                  have:=qbg hc (by simp);simp only[List.length_singleton]at this;cases h;omega
                . split at h
                  . cases h
                  . rename_i o ho
                    have h1:=find_at ho;split at h
                    . cases h
                    . rename_i l k hk
                      have h2:=hP _ _ _ _ _ _ _ _ hk (by omega);split at h
                      . rename_i ha
                        have h3:=qbg ha (by simp);simp only[List.length_singleton]at h3;cases h;omega
                      . cases h
        . dsimp only at h
          split at h
          . cases h
          . rename_i hm
            have:=par_le s (i+1) _ hm;cases h;omega
open Go.RowKit
theorem qkq {E:Env} {self:EV} {f:FuncId} (h:E.ext.get f=none) (hb:qd9 E f=true) (x y args:List V) (S:St):qbo E self (.fn (.func f) x y) args S=self.f f (x++args++y) S:=by
 show(match E.ext.get f with|some k=>_|none=>_)=_;rw[h];show(bif qd9 E f then self.f f (x++args++y) S else none)=_;rw[hb]; rfl
def zP:Tr V:=Tr.ofListFrom .nil [(.int .i64 0),(sv []),(sv []),(.bool false),.nilslice,.nilptr] 0
theorem build_lit (t:Bs) (q:Bool):qab E0 49 [(0,(.int .i64 0)),(1,sv t),(3,.bool q)]=some (.agg 6 (qdo 0 t [] q .nilslice)):=by kernel_rfl
theorem set_kind (t o:Bs) (q:Bool) (v:V):(qdo 0 t o q v).set (.int .i64 1) 0=qdo 1 t o q v:=by kernel_rfl
theorem qjb:6<big:=by unfold big; decide
section
variable {S U T:St}
theorem ag1 (ho:S.on=false) {x e:Nat} {v:V} (h:AgAt S x e 1 (Ev.one v)):ld1 (.ptr x 0) S=some (v,S):=AgAt.ld1 ho h big1 (by decide) rfl
theorem qka {v:V} {e z:Nat} {ts:List (Tr V)} (h:RV S v e z ts):v.size=1/\v.cells=Ev.one v/\qaa v=false:=by
 rcases h with⟨_,rfl⟩|⟨r,_,_,_,rfl|rfl⟩<;>exact⟨rfl,rfl,rfl⟩
structure PS (S:St) (N b:Nat) (s:Bs) (i:Nat) (vT vW:V) (w:Nat) (out:List Part) (text:Bs) (vo vt:V):Prop where
 on:S.on=false
 lx:Lx S b s i vT vW
 bN:b<N
 hi:N+4<=S.next
 pin:AgAt S (N+2) 4 1 (Ev.one (.bool (inD w)))
 pfl:AgAt S (N+3) 1 1 (Ev.one (.fn (.func 69) [] [.ptr (N+1) 0,.ptr (N+2) 0,.ptr N 0]))
 po:AgAt S N 37 1 (Ev.one vo)
 pt:AgAt S (N+1) 79 1 (Ev.one vt)
 tx:RV S vt 5 1 (text.map qc6)
 ot:∃rows,RV S vo 49 6 rows/\PrAt S (fun x=>N+4<=x/\x<S.next/\qah vo≠some x/\qah vt≠some x) out rows
 ob:∀r,qah vo=some r->N+4<=r/\qah vt≠some r
 tb:∀r,qah vt=some r->N+4<=r
variable {N b i i':Nat} {s:Bs} {vT vW vT' vW' vo vt:V} {w:Nat} {out:List Part} {text:Bs}
theorem PS.move {W:Nat->Prop} (h:PS S N b s i vT vW w out text vo vt) (g:Grew W S U) (hW:∀x,W x->x<N) (l:Lx U b s i' vT' vW'):PS U N b s i' vT' vW' w out text vo vt:=by
 obtain⟨rows,r1,r2⟩:=h.ot;have hhi:=h.hi;have nx:=g.next
 have k:∀{x e v},x<N+4->N<=x->AgAt S x e 1 v->AgAt U x e 1 v:=fun hx hN ha=>ha.grew (by omega) (fun hw=>by have:=hW _ hw; omega) g
 exact⟨g.on.trans h.on,l,h.bN,by omega,k (by omega) (by omega) h.pin,k (by omega) (by omega) h.pfl,k (by omega) (by omega) h.po,k (by omega) (by omega) h.pt,h.tx.grew (fun r hr hw=>by have:=hW _ hw; have:=h.tb r hr; omega) g,
  ⟨rows,r1.grew (fun r hr hw=>by have:=hW _ hw; have:=(h.ob r hr).1; omega) g,(r2.grew g fun x hx hw=>by have:=hW _ hw; omega).mono fun x hx=>⟨hx.1,by omega,hx.2.2⟩⟩,h.ob,h.tb⟩
theorem PS.fresh (h:PS S N b s i vT vW w out text vo vt) (hb:b<S.next) (g:Grew (fun _=>False) S U):PS U N b s i vT vW w out text vo vt:=
 h.move g (fun _ h=>h.elim) (h.lx.grew hb (fun h=>h) g)
theorem PS.push (h:PS S N b s i vT vW w out text vo vt) (hl:text.length<50000) (c:UInt8):∃U vt',(∀k:V×St->Rs,((ld1 (.ptr (N+1) 0) S).bind fun p=>(bsP 5 1 1 (Ev.one (.int .u8 0)) [(0,.int .u8 (c.toNat:Int))] p.2).bind fun q=>(apP 5 1 1 p.1 q.1 q.2).bind fun r=>(stP 1 (.ptr (N+1) 0) r.1 r.2).bind k)=k (.tuple [],U))/\
 PS U N b s i vT vW w out (text++[c]) vo vt'/\Grew (fun x=>N<=x) S U:=by
 have hbS:b<S.next:=by have:=h.bN; have:=h.hi; omega
 obtain⟨y,T1,a1,a2,a3,a4,a5⟩:=rv_byte h.on c;have h1:=h.fresh hbS a4;obtain⟨v',T2,b1,b2,b3,b4,_⟩:=h1.tx.cat h1.on (by omega) (a2.pv h1.on) (B:=1) (by simp only[lM,List.length_singleton]; omega) (by omega);have nx1:=a4.next
 have nx2:=b3.next
 have hhi:=h1.hi;have on2:=b3.on.trans h1.on;have hg2:Grew (fun x=>N+4<=x) T1 T2:=b3.mono fun x _ hx=>h1.tb x hx;have k:∀{x e v},x<N+4->AgAt T1 x e 1 v->AgAt T2 x e 1 v:=fun hx ha=>ha.grew (by omega) (fun hw=>by have:=h1.tb _ hw; omega) b3;obtain⟨q1,q2,q3⟩:=qka b2;obtain⟨T3,c1,c2,c3,c4⟩:=(k (by omega) h1.pt).st_one on2 v' q1 q2 q3;have nx3:=c3.next
 obtain⟨rows,r1,r2⟩:=h1.ot;have hnew:∀r,qah v'=some r->qah vt=some r\/T1.next<=r:=b4
 have kk:∀{x e v},x<N+4->x≠N+1->AgAt T1 x e 1 v->AgAt T3 x e 1 v:=fun hx hne ha=>(k hx ha).grew (by omega) hne c3;refine⟨T3,v',fun kf=>?_,⟨c3.on.trans on2,?_,h1.bN,by omega,kk (by omega) (by omega) h1.pin,kk (by omega) (by omega) h1.pfl,kk (by omega) (by omega) h1.po,c2,?_,⟨rows,?_,?_⟩,?_,?_⟩,?_⟩
 . rw[ag1 h.on h.pt,oB]
   dsimp only;rw[a1,oB];dsimp only;rw[b1,oB];dsimp only;rw[c1,oB]
 . have:=h1.bN
   exact(h1.lx.grew (by omega) (fun hw=>by have:=h1.tb _ hw; omega) b3).grew (by omega) (by omega) c3
 . rw[List.map_append]
   refine b2.grew (fun r hr hx=>?_) c3;subst hx;rcases hnew _ hr with h|h
   . have:=h1.tb _ h; omega
   . omega
 . refine(r1.grew (fun r hr hw=>(h1.ob r hr).2 hw) b3).grew (fun r hr hx=>?_) c3
   have:=(h1.ob r hr).1;omega
 . refine((r2.grew b3 fun x hx hw=>hx.2.2.2 hw).grew c3 fun x hx he=>by omega).mono fun x hx=>⟨hx.1,by omega,hx.2.2.1,fun hv=>?_⟩
   rcases hnew _ hv with h|h
   . exact hx.2.2.2 h
   . omega
 . intro r hr
   refine⟨(h1.ob r hr).1,fun hv=>?_⟩;rcases hnew _ hv with h|h
   . exact(h1.ob r hr).2 h
   . have:=r1.blk_lt hr; omega
 . intro r hr
   rcases hnew _ hr with h|h
   . exact h1.tb r h
   . omega
 . exact((a4.mono fun _ _ h=>h.elim).trans (hg2.mono fun x _ hx=>by omega)).trans (c3.mono fun x _ hx=>by omega)
theorem PS.cat (h:PS S N b s i vT vW w out [] vo vt) {y:V} {m:List (Tr V)} {ps:List Part} (hy:RV S y 49 6 m) (hps:PrAt S (fun x=>N+4<=x/\x<S.next/\qah vo≠some x) ps m) (hl:out.length+ps.length<90000) :
 ∃U vo',(∀k:V×St->Rs,((ld1 (.ptr N 0) S).bind fun p=>(apP 49 6 80 p.1 y p.2).bind fun r=>(stP 1 (.ptr N 0) r.1 r.2).bind k)=k (.tuple [],U))/\
 PS U N b s i vT vW w (out++ps) [] vo' .nilslice/\Grew (fun x=>x=N\/qah vo=some x) S U/\∀r,qah vo'=some r->qah vo=some r\/S.next<=r:=by
 obtain⟨rows,r1,r2⟩:=h.ot
 have hvt:vt=.nilslice:=by
  rcases h.tx with⟨_,hv⟩|⟨r,_,_,h3,_⟩
  . exact hv
  . simp at h3
 subst hvt;have e1:=r2.len;have e2:=hps.len;obtain⟨v',T2,b1,b2,b3,b4,_⟩:=r1.cat h.on (by omega) (hy.pv h.on) (B:=80) (by omega) (by omega);have nx2:=b3.next
 have hhi:=h.hi;have on2:=b3.on.trans h.on;have k:∀{x e v},x<N+4->AgAt S x e 1 v->AgAt T2 x e 1 v:=fun hx ha=>ha.grew (by omega) (fun hw=>by have:=(h.ob _ hw).1; omega) b3;obtain⟨q1,q2,q3⟩:=qka b2;obtain⟨T3,c1,c2,c3,c4⟩:=(k (by omega) h.po).st_one on2 v' q1 q2 q3;have nx3:=c3.next
 have hnew:∀r,qah v'=some r->N+4<=r:=fun r hr=>by
  rcases b4 r hr with h'|h'
  . exact(h.ob r h').1
  . omega
 have kk:∀{x e v},x<N+4->x≠N->AgAt S x e 1 v->AgAt T3 x e 1 v:=fun hx hne ha=>(k hx ha).grew (by omega) hne c3;refine⟨T3,v',fun kf=>?_,⟨c3.on.trans on2,?_,h.bN,by omega,kk (by omega) (by omega) h.pin,kk (by omega) (by omega) h.pfl,c2,kk (by omega) (by omega) h.pt,.inl ⟨rfl,rfl⟩,⟨rows++m,?_,?_⟩,?_,?_⟩,?_,b4⟩
 . rw[ag1 h.on h.po,oB]
   dsimp only;rw[b1,oB];dsimp only;rw[c1,oB]
 . have:=h.bN
   exact(h.lx.grew (by omega) (fun hw=>by have:=(h.ob _ hw).1; omega) b3).grew (by omega) (by omega) c3
 . exact b2.grew (fun r hr hx=>by have:=hnew _ hr; omega) c3
 . have hall:PrAt S (fun x=>N+4<=x/\x<S.next/\qah vo≠some x) (out++ps) (rows++m):=(r2.mono fun x hx=>⟨hx.1,hx.2.1,hx.2.2.1⟩).append hps
   refine((hall.grew b3 fun x hx hw=>hx.2.2 hw).grew c3 fun x hx he=>by omega).mono fun x hx=>⟨hx.1,by omega,fun hv=>?_,fun hv=>by cases hv⟩
   rcases b4 _ hv with h'|h'
   . exact hx.2.2 h'
   . omega
 . exact fun r hr=>⟨hnew r hr,fun hv=>by cases hv⟩
 . exact fun r hr=>by cases hr
 . exact(b3.mono fun x _ hx=>.inr hx).trans (c3.mono fun x _ hx=>.inl hx)
variable {K:FuncId->Option KF}
theorem call69 {self:EV} {a1 a2 a3:V}:qbo E0 self (.fn (.func 69) [] [a1,a2,a3]) [] S=self.f 69 [a1,a2,a3] S:=qkq (by kernel_rfl) (by kernel_rfl) [] [a1,a2,a3] [] S
theorem call70 {self:EV} {a1 a2 y:V}:qbo E0 self (.fn (.func 70) [] [a1,a2]) [y] S=self.f 70 [y,a1,a2] S:=qkq (by kernel_rfl) (by kernel_rfl) [] [a1,a2] [y] S
theorem flush_run (hK:RefL K) (d:Nat) (h:PS S N b s i vT vW w out text vo vt) (hl:out.length+text.length<50000) :
 ∃U vo',(ev E0 K (d+1)).f 69 [.ptr (N+1) 0,.ptr (N+2) 0,.ptr N 0] S=some (.ret (.tuple []),U)/\PS U N b s i vT vW w (qkw w out text) [] vo' .nilslice/\Grew (fun x=>x=N\/x=N+1\/qah vo=some x) S U/\∀r,qah vo'=some r->qah vo=some r\/S.next<=r:=by
 have hbS:b<S.next:=by have:=h.bN; have:=h.hi; omega
 have hln:∀T,lnS vt T=some (.int .i64 (text.length:Int),T):=fun T=>by
  have:=h.tx.len T
  rwa [lM]at this
 by_cases h0:text=[]
 . subst h0
   have hvt:vt=.nilslice:=by
    rcases h.tx with⟨_,hv⟩|⟨r,_,_,h3,_⟩
    . exact hv
    . simp at h3
   subst hvt;refine⟨S,vo,rv69 hK ?_,h,Grew.refl _ _,fun r hr=>.inl hr⟩;show F69 (ev E0 K d) qa3 (.ptr (N+1) 0) (.ptr (N+2) 0) (.ptr N 0) S=_;rw[F69_eq,ag1 h.on h.pt,oB];dsimp only;rw[hln,oB];rfl
 . have hpos:0<text.length:=List.length_pos_iff.2 h0
   obtain⟨n1,n2,n3⟩:=qbp h.on 49 6 zP;have p1:=h.fresh hbS n2;obtain⟨T2,m1,m2,m3,m4⟩:=n1.stA p1.on qjb (qdo 0 text [] (inD w) .nilslice);have nx:=h.hi;have bN:=h.bN;have nm:=m3.next
   have gS2:Grew (fun _=>False) S T2:=⟨by have:=n2.next; omega,m3.on.trans n2.on,fun x hx _=>(m3.keep x (by have:=n2.next; omega) (by omega)).trans (n2.keep x hx (fun h=>h))⟩
   have p2:=h.fresh hbS gS2
   have key:∀(T3:St) (kd:Nat),Grew (fun _=>False) S T3->AgAt T3 S.next 49 6 (qdo kd text [] (inD w) .nilslice)->kd=(if inD w then 1 else 0)->
    ∃U vo',(∀k:V×St->Rs,((ld1 (.ptr N 0) T3).bind fun p18=>(ldA 6 (.ptr S.next 0) p18.2).bind fun p19=>(bsP 49 6 1 zP [(0,p19.1)] p19.2).bind fun p20=>(apP 49 6 80 p18.1 p20.1 p20.2).bind fun p21=>(stP 1 (.ptr N 0) p21.1 p21.2).bind fun p22=>(stP 1 (.ptr (N+1) 0) .nilslice p22.2).bind k)=k (.tuple [],U))/\
     PS U N b s i vT vW w (qkw w out text) [] vo' .nilslice/\Grew (fun x=>x=N\/x=N+1\/qah vo=some x) S U/\∀r,qah vo'=some r->qah vo=some r\/S.next<=r:=fun T3 kd g3 a3 hkd=>by
    have p3:=h.fresh hbS g3;have nx3:=g3.next
    obtain⟨y,T4,c1,c2,c3,c4,c5⟩:=qj5 p3.on 49 6 zP (qdo kd text [] (inD w) .nilslice) (by omega) (by omega);have p4:=p3.fresh (by omega) c4;have nx4:=c4.next
    obtain⟨rows,r1,r2⟩:=p4.ot;have e1:=r2.len;obtain⟨v',T5,b1,b2,b3,b4,_⟩:=r1.cat p4.on (by omega) (c2.pv p4.on) (B:=80) (by rw[List.length_singleton]; omega) (by omega);have nx5:=b3.next
    have on5:=b3.on.trans p4.on;have hhi:=p4.hi;have k5:∀{x e v},x<N+4->AgAt T4 x e 1 v->AgAt T5 x e 1 v:=fun hx ha=>ha.grew (by omega) (fun hw=>by have:=(p4.ob _ hw).1; omega) b3;obtain⟨q1,q2,q3⟩:=qka b2;obtain⟨T6,d1,d2,d3,d4⟩:=(k5 (by omega) p4.po).st_one on5 v' q1 q2 q3;have on6:=d3.on.trans on5;have nx6:=d3.next
    have k6:∀{x e v},x<N+4->x≠N->AgAt T4 x e 1 v->AgAt T6 x e 1 v:=fun hx hne ha=>(k5 hx ha).grew (by omega) hne d3;obtain⟨T7,f1,f2,f3,f4⟩:=(k6 (by omega) (by omega) p4.pt).st_one on6 .nilslice rfl rfl rfl;have nx7:=f3.next
    have k7:∀{x e v},x<N+4->x≠N->x≠N+1->AgAt T4 x e 1 v->AgAt T7 x e 1 v:=fun hx hne hne2 ha=>(k6 hx hne ha).grew (by omega) hne2 f3
    have hnew:∀r,qah v'=some r->N+4<=r:=fun r hr=>by
     rcases b4 r hr with h'|h'
     . exact(p4.ob r h').1
     . omega
    refine⟨T7,v',fun kf=>?_,⟨f3.on.trans on6,?_,h.bN,by omega,k7 (by omega) (by omega) (by omega) p4.pin,k7 (by omega) (by omega) (by omega) p4.pfl,d2.grew (by omega) (by omega) f3,f2,.inl ⟨rfl,rfl⟩,⟨rows++[qdo kd text [] (inD w) .nilslice],?_,?_⟩,?_,?_⟩,?_,?_⟩
    . rw[ag1 p3.on p3.po,oB]
      dsimp only;rw[a3.ldA p3.on qjb,oB];dsimp only;rw[c1,oB];dsimp only;rw[b1,oB];dsimp only;rw[d1,oB];dsimp only;rw[f1,oB]
    . exact((p4.lx.grew (by omega) (fun hw=>by have:=(p4.ob _ hw).1; omega) b3).grew (by omega) (by omega) d3).grew (by omega) (by omega) f3
    . exact(b2.grew (fun r hr hx=>by have:=hnew _ hr; omega) d3).grew (fun r hr hx=>by have:=hnew _ hr; omega) f3
    . have hone:PrAt T4 (fun x=>N+4<=x/\x<T4.next/\qah vo≠some x) [.mk kd text [] (inD w) []] [qdo kd text [] (inD w) .nilslice]:=prAt_one (qdm _ _ _ _)
      have hall:=(r2.mono fun x hx=>(⟨hx.1,hx.2.1,hx.2.2.1⟩:N+4<=x/\x<T4.next/\qah vo≠some x)).append hone;have hfl:qkw w out text=out++[.mk kd text [] (inD w) []]:=by unfold qkw; rw[iN h0,hkd]
      rw[hfl];refine(((hall.grew b3 fun x hx hw=>hx.2.2 hw).grew d3 fun x hx he=>by omega).grew f3 fun x hx he=>by omega).mono fun x hx=>⟨hx.1,by omega,fun hv=>?_,fun hv=>by cases hv⟩
      rcases b4 _ hv with h'|h'
      . exact hx.2.2 h'
      . omega
    . exact fun r hr=>⟨hnew r hr,fun hv=>by cases hv⟩
    . exact fun r hr=>by cases hr
    . exact((((g3.mono fun _ _ h=>h.elim).trans (c4.mono fun _ _ h=>h.elim)).trans (b3.mono fun x _ hx=>.inr (.inr hx))).trans (d3.mono fun x _ hx=>.inl hx)).trans (f3.mono fun x _ hx=>.inr (.inl hx))
    . intro r hr
      rcases b4 r hr with h'|h'
      . exact .inl h'
      . exact .inr (by omega)
   have hF:∀U,F69 (ev E0 K d) qa3 (.ptr (N+1) 0) (.ptr (N+2) 0) (.ptr N 0) S=some (.ret (.tuple []),U)->(ev E0 K (d+1)).f 69 [.ptr (N+1) 0,.ptr (N+2) 0,.ptr N 0] S=some (.ret (.tuple []),U):=fun U e=>rv69 hK e;have hs:F69 (ev E0 K d) qa3 (.ptr (N+1) 0) (.ptr (N+2) 0) (.ptr N 0) S=_:=F69_eq ..;rw[ag1 h.on h.pt,oB]at hs;dsimp only at hs;rw[hln,oB]at hs;dsimp only at hs;rw[eql0,dF (by omega),oB,ifK_bool,cF,ag1 h.on h.pt,oB]at hs;dsimp only at hs;rw[conv_rv h.on h.tx h0,oB]at hs;dsimp only at hs;rw[ag1 h.on h.pin,oB]at hs;dsimp only at hs;rw[build_lit,oB,oB,qbs,show(Tr.ofListFrom .nil [(.int .i64 0),(sv []),(sv []),(.bool false),.nilslice,.nilptr] 0:Tr V)=zP from rfl,m1,oB]at hs;dsimp only at hs;rw[ag1 p2.on p2.pin,oB]at hs;dsimp only at hs;rw[ifK_bool]at hs;cases hin:inD w with
   | true=>
    obtain⟨T3,s1,s2,s3,s4⟩:=m2.st1 p2.on qjb (by decide) (by decide:0<6) (.int .i64 1) rfl rfl rfl;rw[hin,set_kind]at s2;have gS3:Grew (fun _=>False) S T3:=⟨by have:=gS2.next; have:=s3.next; omega,s3.on.trans gS2.on,fun x hx _=>(s3.keep x (by have:=gS2.next; omega) (by omega)).trans (gS2.keep x hx (fun h=>h))⟩
    obtain⟨U,vo',k1,k2⟩:=key T3 1 gS3 (by rw[hin]; exact s2) (by rw[hin]; rfl);rw[hin,cT,fap0,oB,s1,oB]at hs;dsimp only at hs;rw[k1]at hs;exact⟨U,vo',hF U hs,k2⟩
   | false=>
    rw[hin]at m2;obtain⟨U,vo',k1,k2⟩:=key T2 0 gS2 (by rw[hin]; exact m2) (by rw[hin]; rfl);rw[hin,cF,k1]at hs;exact⟨U,vo',hF U hs,k2⟩
theorem add_run (hK:RefL K) (d:Nat) (h:PS S N b s i vT vW w out text vo vt) {y:V} {m:List (Tr V)} {ps:List Part} (hy:RV S y 49 6 m) (hyb:∀r,qah y=some r->N+4<=r/\qah vo≠some r) (hps:PrAt S (fun x=>N+4<=x/\x<S.next/\qah vo≠some x) ps m) (hl:out.length+text.length<50000) (hl2:ps.length<30000) :
 ∃U vo',qbo E0 (ev E0 K (d+2)) (.fn (.func 70) [] [.ptr (N+3) 0,.ptr N 0]) [y] S=some (.ret (.tuple []),U)/\PS U N b s i vT vW w (qkw w out text++ps) [] vo' .nilslice/\Grew (fun x=>N<=x) S U:=by
 obtain⟨T1,v1,a1,a2,a3,a4⟩:=flush_run hK d h hl;have hhi:=h.hi;have nx:=a3.next
 have hy1:RV T1 y 49 6 m:=hy.grew (fun r hr hw=>by
  have:=hyb r hr;rcases hw with hw|hw|hw
  . omega
  . omega
  . exact this.2 hw) a3
 have hps1:PrAt T1 (fun x=>N+4<=x/\x<T1.next/\qah v1≠some x) ps m:=(hps.grew a3 fun x hx hw=>by
  rcases hw with hw|hw|hw
  . omega
  . omega
  . exact hx.2.2 hw).mono fun x hx=>⟨hx.1,by omega,fun hv=>by
    rcases a4 x hv with h'|h'
    . exact hx.2.2 h'
    . omega⟩
 have hfl:=flu_len w out text;obtain⟨U,v2,b1,b2,b3,b4⟩:=a2.cat hy1 hps1 (by omega);refine⟨U,v2,?_,b2,?_⟩
 . rw[call70]
   refine rv70 hK (n:=d+1) ?_;show F70 (ev E0 K (d+1)) qa3 y (.ptr (N+3) 0) (.ptr N 0) S=_;rw[F70_eq,ag1 h.on h.pfl,oB];dsimp only;rw[call69,a1,callP_ret,b1]
 . exact(a3.mono fun x _ hx=>by
    rcases hx with hx|hx|hx
    . omega
    . omega
    . have:=(h.ob x hx).1; omega).trans (b3.mono fun x _ hx=>by
    rcases hx with hx|hx
    . omega
    . have:=(a2.ob x hx).1; omega)
end
section
variable {K:FuncId->Option KF} {S U T:St} {b i:Nat} {s:Bs} {vT vW:V}
theorem texts_row (ho:S.on=false) (l:List Bs) (hl:l.length<1000):∃U,bsP 9 1 l.length (Ev.one (sv [])) (numb 0 (l.map sv)) S=some (.slice S.next 0 l.length l.length,U)/\TL U (.slice S.next 0 l.length l.length) l/\Grew (fun _=>False) S U/\U.next=S.next+1:=by
 obtain⟨U,h1,h2,h3,h4⟩:=bsP_ones ho 9 (Ev.one (sv [])) (l.map sv) (fun v hv=>by
  obtain⟨a,_,rfl⟩:=List.mem_map.1 hv
  exact oneV_sv a) (by rw[lM]; unfold big; omega)
 have h:=h1 none;rw[lM]at h;refine⟨U,h,?_,h3,h4⟩;refine TL.sli (r:=S.next) (c:=l.length) ?_ (by omega);rw[List.map_map]at h2;exact h2
theorem ops_run (hK:RefL K) (m:Nat) (ho:S.on=false):∃U,(ev E0 K (m+1)).f 99 [] S=some (.ret (.slice S.next 0 12 12),U)/\TL U (.slice S.next 0 12 12) opsT/\Grew (fun _=>False) S U/\U.next=S.next+1:=by
 obtain⟨U,h1,h2⟩:=texts_row ho opsT (by decide);refine⟨U,rv99 hK ?_,h2⟩;show F99 (ev E0 K m) qa3 S=_;rw[F99_eq];have e:bsP 9 1 12 (Ev.one (sv [])) [(0,(sv [58,45])),(1,(sv [58,61])),(2,(sv [58,43])),(3,(sv [58,63])),(4,(sv [35,35])),(5,(sv [37,37])),(6,(sv [45])),(7,(sv [61])),(8,(sv [43])),(9,(sv [63])),(10,(sv [35])),(11,(sv [37]))] S=some (.slice S.next 0 12 12,U):=h1;rw[e,oB]
theorem marks_run (hK:RefL K) (m:Nat) (ho:S.on=false):∃U,(ev E0 K (m+1)).f 48 [] S=some (.ret (.slice S.next 0 12 12),U)/\TL U (.slice S.next 0 12 12) marT/\Grew (fun _=>False) S U/\U.next=S.next+1:=by
 obtain⟨U,h1,h2⟩:=texts_row ho marT (by decide);refine⟨U,rv48 hK ?_,h2⟩;show F48 (ev E0 K m) qa3 S=_;rw[F48_eq];have e:bsP 9 1 12 (Ev.one (sv [])) [(0,(sv [59,59])),(1,(sv [59])),(2,(sv [38,38])),(3,(sv [124,124])),(4,(sv [124])),(5,(sv [40])),(6,(sv [41])),(7,(sv [60,60])),(8,(sv [60])),(9,(sv [62,62])),(10,(sv [62,38])),(11,(sv [62]))] S=some (.slice S.next 0 12 12,U):=h1;rw[e,oB]
theorem call23 {self:EV} {p y:V}:qbo E0 self (.fn (.func 23) [p] []) [y] S=self.f 23 [p,y] S:=qkq (by kernel_rfl) (by kernel_rfl) [p] [] [y] S
abbrev FndR (o:Option Bs) (L:List Bs) (S:St) (b i:Nat) (s:Bs) (vT vW:V) (r rn:Rs):Prop:=match o with
 | none=>r=rn
 | some o=>∃(j:Nat) (U:St),L[j]?=some o/\r=some (.ret (.int .i64 (j:Int)),U)/\Lx U b s (i+o.length) vT vW/\Grew (fun x=>x=b) S U/\U.next=S.next/\U.on=false
theorem L67_spec (hK:RefL K) (m:Nat) (ho:S.on=false) (h:Lx S b s i vT vW) (hs:s.length<9223372036854770000) (hi:i<=s.length) {v:V} {L:List Bs} (hL:TL S v L) (hLl:L.length<1000) (nk:Ac->St->Rs) (ek:Nat->Ac->St->Rs) :
 ∀(l:List Bs) (k q:Nat),L.drop k=l->l.length<q->
 FndR (l.find? (fun o=>atD s i o)) L S b i s vT vW (L67_6 (ev E0 K (m+4)) qa3 nk ek q v (.fn (.func 23) [.ptr b 0] []) (.int .i64 (L.length:Int)) (.int .i64 (k:Int)) S) (ek 0 (fr 19 []) S)
 | l,k,0,hk,hq=>absurd hq (Nat.not_lt_zero _)
 | [],k,q+1,hk,hq=>by
  show L67_6 _ _ _ _ _ _ _ _ _ _=_;rw[L67_6_eq,qk5,oB,dF (by have:=qh6 hk; omega),ifK_bool,cF]
 | o::l,k,q+1,hk,hq=>by
  obtain⟨hlt,hc,hr,_⟩:=qjg hk;rw[List.length_cons]at hq;have ih:=L67_spec hK m ho h hs hi hL hLl nk ek l (k+1) q hr (by omega);obtain⟨p,p1,p2⟩:=hL.ld ho (i:=k) (a:=o) (by rw[List.getElem?_eq_getElem hlt,hc]);have e:L67_6 (ev E0 K (m+4)) qa3 nk ek (q+1) v (.fn (.func 23) [.ptr b 0] []) (.int .i64 (L.length:Int)) (.int .i64 (k:Int)) S=_:=L67_6_eq ..;rw[qk5,oB,dT hlt,ifK_bool,cT,p1,oB,p2,oB]at e;dsimp only at e;rw[call23]at e;rw[List.find?_cons];cases ha:atD s i o with
  | true=>
   have hlen:i+o.length<=s.length:=by
    by_cases h0:o=[]
    . subst h0; simpa using hi
    . exact qbg ha h0
   obtain⟨U,k1,k2,k3,k4⟩:=qb3 hK m ho h hi (t:=o) (by omega) ha;rw[k1,callP_ret,ifK_bool,cT]at e;exact⟨k,U,by rw[List.getElem?_eq_getElem hlt,hc],e,k2,k3,k4,k3.on.trans ho⟩
  | false=>
   rw[qbc hK m ho h hi (t:=o) ha,callP_ret,ifK_bool,cF,qff (by omega),oB]at e;dsimp only;rw[e];exact ih
theorem f67_run (hK:RefL K) (m:Nat) (ho:S.on=false) (h:Lx S b s i vT vW) (hs:s.length<9223372036854770000) (hi:i<=s.length) {v:V} {L:List Bs} (hL:TL S v L) (hLl:L.length<1000) :
 FndR (L.find? (fun o=>atD s i o)) L S b i s vT vW ((ev E0 K (m+5)).f 67 [v,.fn (.func 23) [.ptr b 0] []] S) (some (.ret (.int .i64 (-1)),S)):=by
 have hF:F67 (ev E0 K (m+4)) qa3 v (.fn (.func 23) [.ptr b 0] []) S=_:=F67_eq ..;rw[hL.len,oB]at hF;dsimp only at hF;have:=L67_spec hK m ho h hs hi hL hLl (R67_1 (ev E0 K (m+4)) qa3 (qbu E0 (ev E0 K (m+4)) Tryd.f67) qav) (exB 0 (R67_1 (ev E0 K (m+4)) qa3 (qbu E0 (ev E0 K (m+4)) Tryd.f67) qav) qav) L 0 qa3 rfl (by unfold qa3; omega);cases hf:L.find? (fun o=>atD s i o)with
 | none=>
  rw[hf]at this;refine rv67 hK (hF.trans (Eq.trans this ?_));rw[exB_same,R67_1_eq]
 | some o=>
  rw[hf]at this;obtain⟨j,U,h1,h2,h3⟩:=this;exact⟨j,U,h1,rv67 hK (hF.trans h2),h3⟩
theorem more_lg (hK:RefL K) (m:Nat) (ho:S.on=false) (h:Lx S b s i vT vW):(ev E0 K (m+1)).f 24 [.ptr b 0] (onS S)=some (.ret (.bool (decide (i<s.length))),S.lg [⟨b,0,1,false⟩,⟨b,1,2,false⟩]):=rv24 hK (by
 show F24 (ev E0 K m) qa3 (.ptr b 0) (onS S)=_;rw[F24_eq,show onS S=S.lg []from rfl,h.l1 ho];dsimp only;rw[h.l0 ho];dsimp only;rw[qg8,llg,lnStr_sv,oB];dsimp only;rw[qk5,oB,qbq (by rfl)]
 rfl)
end
end Go.Proofs.YtafbipadnnmccaaDoor.W
end
