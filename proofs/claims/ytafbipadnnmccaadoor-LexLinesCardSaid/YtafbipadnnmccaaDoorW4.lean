/-
  WHAT THE FUNCTIONS COME TO: each is read by the evaluator,printed,and told as a function of data,part 4 of 12 (no condition).
-/
import Derived.Test.YtafbipadnnmccaaDoorW3
noncomputable section
namespace Go.Proofs.YtafbipadnnmccaaDoor.W
open Go.Proofs.YtafbipadnnmccaaDoor.Ev Go.RowKit
section
variable {K:FuncId->Option KF} {S:St} {b i:Nat} {s:Bs} {vT vW:V}
theorem nilK (b o:Nat):qa1 (.ptr b o)=some (.ptr b o):=rfl
theorem fap0 (b:Nat):faP 0 false 1 (.ptr b 0)=some (.ptr b 0):=rfl
theorem fap1 (b:Nat):faP 1 false 1 (.ptr b 0)=some (.ptr b 1):=rfl
theorem addC (k:Nat) {i:Nat} (h:i+k<9223372036854775808):qa5 E0 .add 3 false true (.int .i64 (i:Int)) (.int .i64 (k:Int))=some (.int .i64 ((i+k:Nat):Int)):=by
 rw[binV_ii,intsV_add,show((i:Int)+(k:Int))=((i+k:Nat):Int) by omega,qg0 (by omega) (by omega)]
theorem qfn {s:Bs} {i:Nat} (h:i<s.length):s[i]=byt s i:=by
 unfold byt;rw[List.getD_eq_getElem?_getD,List.getElem?_eq_getElem h,Option.getD_some]
theorem esc_no (hK:RefL K) (m:Nat) (ho:S.on=false) (h:Lx S b s i vT vW) (hs:s.length<9223372036854775800) (hi:i<=s.length) (hl:s.length<=i+1) :
 ∃U,(ev E0 K (m+2)).f 72 [.ptr b 0] S=some (.pan (.iface 51 (.ptr S.next 0)),U)/\AgAt U S.next 52 2 (qjx 19 i)/\Grew (fun _=>False) S U/\U.next=S.next+1:=by
 obtain⟨U,k1,k2⟩:=fail_run hK m ho 19 i;refine⟨U,rv72 hK ?_,k2⟩;show F72 (ev E0 K (m+1)) qa3 (.ptr b 0) S=_;rw[F72_eq,nilK,oB,fap1,oB,qg8,h.i1 ho,oB];dsimp only;rw[qei (by omega),oB,oB,fap0,oB,qg8,llg,h.s0 ho,oB];dsimp only;rw[qg8,llg,lnStr_sv,oB];dsimp only;rw[geqN,oB,dT hl,qcu (by rfl),qg8,llg,qd2 ho,ifK_bool,cT,oB,fap1,oB,h.i1f ho,oB];dsimp only;rw[show(V.int .i64 19)=.int .i64 ((19:Nat):Int)from rfl,k1];rfl
theorem esc_yes (hK:RefL K) (m:Nat) (ho:S.on=false) (h:Lx S b s i vT vW) (hs:s.length<9223372036854775800) (hl:i+1<s.length) :
 ∃U,(ev E0 K (m+2)).f 72 [.ptr b 0] S=some (.ret (.int .u8 ((byt s (i+1)).toNat:Int)),U)/\Lx U b s (i+2) vT vW/\Grew (fun x=>x=b) S U/\U.next=S.next:=by
 obtain⟨U,k1,k2⟩:=h.put ho (i+2);refine⟨U,rv72 hK ?_,k2⟩;show F72 (ev E0 K (m+1)) qa3 (.ptr b 0) S=_;rw[F72_eq,nilK,oB,fap1,oB,qg8,h.i1 ho,oB];dsimp only;rw[qei (by omega),oB,oB,fap0,oB,qg8,llg,h.s0 ho,oB];dsimp only;rw[qg8,llg,lnStr_sv,oB];dsimp only;rw[geqN,oB,dF (by omega),qcu (by rfl),qg8,llg,qd2 ho,ifK_bool,cF];rw[R72_1_eq,nilK,oB,fap0,oB,qg8,h.s0 ho,oB];dsimp only;rw[oB,fap1,oB,qg8,llg,h.i1 ho,oB];dsimp only;rw[qei (by omega),oB,qgm _ _ _ hl,oB,qcu (by rfl),qg8,llg,qd2 ho,oB,fap1,oB,h.i1f ho,oB];dsimp only;rw[show(V.int .i64 2)=.int .i64 ((2:Nat):Int)from rfl,addC 2 (by omega),oB,oB,fap1,oB,k1,oB,qfn hl]
end
section
variable {K:FuncId->Option KF} {S:St}
theorem u8ge (c:UInt8) (k:Nat):qa5 E0 .geq 5 false true (.int .u8 (c.toNat:Int)) (.int .u8 (k:Int))=some (.bool (decide (k<=c.toNat))):=by
 rw[binV_ii,intsV_geq]
 congr 2
 simp
theorem u8le (c:UInt8) (k:Nat):qa5 E0 .leq 5 false true (.int .u8 (c.toNat:Int)) (.int .u8 (k:Int))=some (.bool (decide (c.toNat<=k))):=by
 rw[binV_ii,intsV_leq]
 congr 2
 simp
theorem u8eq (c:UInt8) (k:Nat):qa5 E0 .eql 5 false true (.int .u8 (c.toNat:Int)) (.int .u8 (k:Int))=some (.bool (decide (c.toNat=k))):=by
 rw[binV_ii,intsV_eql]
 congr 2
 simp;omega
theorem digD_nat (c:UInt8):digD c=(decide (48<=c.toNat)&&decide (c.toNat<=57)):=rfl
theorem letD_nat (c:UInt8):letD c=((decide (97<=c.toNat)&&decide (c.toNat<=122))||(decide (65<=c.toNat)&&decide (c.toNat<=90))||decide (c.toNat=95)):=by
 have:(c==95)=decide (c.toNat=95):=by
  rw[Bool.eq_iff_iff,beq_iff_eq,decide_eq_true_iff,<- UInt8.toNat_inj];rfl
 unfold letD;rw[this];rfl
theorem dig_run (hK:RefL K) (m:Nat) (c:UInt8) (S:St):(ev E0 K (m+1)).f 101 [.int .u8 (c.toNat:Int)] S=some (.ret (.bool (digD c)),S):=rv101 hK (by
 show F101 (ev E0 K m) qa3 (.int .u8 (c.toNat:Int)) S=_;rw[F101_eq,digD_nat,show V.int .u8 48=.int .u8 ((48:Nat):Int)from rfl,show V.int .u8 57=.int .u8 ((57:Nat):Int)from rfl,u8ge,oB];cases decide (48<=c.toNat)with
 | true=>simp only[oB,qau,qad,cT,cF,pickV_bool,Bool.true_and,u8le]
 | false=>rfl)
theorem let_run (hK:RefL K) (m:Nat) (c:UInt8) (S:St):(ev E0 K (m+1)).f 100 [.int .u8 (c.toNat:Int)] S=some (.ret (.bool (letD c)),S):=rv100 hK (by
 show F100 (ev E0 K m) qa3 (.int .u8 (c.toNat:Int)) S=_;rw[F100_eq,letD_nat,show V.int .u8 97=.int .u8 ((97:Nat):Int)from rfl,show V.int .u8 122=.int .u8 ((122:Nat):Int)from rfl,show V.int .u8 65=.int .u8 ((65:Nat):Int)from rfl,show V.int .u8 90=.int .u8 ((90:Nat):Int)from rfl,show V.int .u8 95=.int .u8 ((95:Nat):Int)from rfl,u8ge,oB];have h1:=u8le c 122;have h2:=u8ge c 65;have h3:=u8le c 90;have h4:=u8eq c 95;generalize decide (c.toNat<=122)=q1 at h1 ⊢;generalize decide (65<=c.toNat)=q2 at h2 ⊢;generalize decide (c.toNat<=90)=q3 at h3 ⊢;generalize decide (c.toNat=95)=q4 at h4 ⊢;generalize decide (97<=c.toNat)=q0
 cases q0<;>cases q1<;>cases q2<;>cases q3<;>cases q4<;>simp only[oB,qau,qad,qas,nF,Bool.not_true,cT,cF,pickV_bool,h1,h2,h3,h4]<;>rfl)
theorem qfe (hK:RefL K) (m:Nat) (w:Nat) (S:St):(ev E0 K (m+1)).f 68 [.int .i64 (w:Int)] S=some (.ret (.bool (inD w)),S):=rv68 hK (by
 show F68 (ev E0 K m) qa3 (.int .i64 (w:Int)) S=_
 have e0:qa5 E0 .neq 96 false true (.int .i64 (w:Int)) (.int .i64 0)=some (.bool (w != 0)):=by
  rw[binV_ii,intsV_neq]
  congr 2
  rw[Bool.eq_iff_iff];simp
 have e3:qa5 E0 .neq 96 false true (.int .i64 (w:Int)) (.int .i64 3)=some (.bool (w != 3)):=by
  rw[binV_ii,intsV_neq]
  congr 2
  rw[Bool.eq_iff_iff];simp;omega
 rw[F68_eq,e0,oB,inD];cases w != 0 with
 | true=>simp only[oB,qad,cT,pickV_bool,Bool.true_and,e3]
 | false=>rfl)
end
section
variable {S:St}
theorem ext97:E0.ext.get 97=some 1:=by kernel_rfl
theorem call97 (self:EV) (s:List UInt8) (c:UInt8) (S:St):qc8 E0 self (.fn (.func 97) [] []) [sv s,.int .u8 (c.toNat:Int)] S=some (.ret (.int .i64 (ixB s c)),S):=by
 have h:=callK_ext (E:=E0) (self:=self) ext97 [] [] [sv s,.int .u8 (c.toNat:Int)] S;have h2:=ext_ixB s c S;rw[List.nil_append,List.append_nil,h2]at h;exact h
theorem F87_of (self:EV) (N:Nat) (s:V) (c:UInt8) (S:St) (v:V) (h:qc8 E0 self (.fn (.func 97) [] []) [s,.int .u8 (c.toNat:Int)] S=some (.ret v,S)):F87 self N s (.int .u8 (c.toNat:Int)) S=some (.ret v,S):=by
 rw[F87_eq,h,callP_ret]
theorem F87_spec (self:EV) (N:Nat) (s:List UInt8) (c:UInt8) (S:St):F87 self N (sv s) (.int .u8 (c.toNat:Int)) S=some (.ret (.int .i64 (ixB s c)),S):=
 F87_of self N (sv s) c S (.int .i64 (ixB s c)) (call97 self s c S)
theorem ix_run {K:FuncId->Option KF} (hK:RefL K) (m:Nat) (s:Bs) (c:UInt8) (S:St):(ev E0 K (m+2)).f 73 [sv s,.int .u8 (c.toNat:Int)] S=some (.ret (.int .i64 (ixB s c)),S):=rv73 hK (by
 show F73 (ev E0 K (m+1)) qa3 (sv s) (.int .u8 (c.toNat:Int)) S=_
 rw[F73_eq,rv87 hK (F87_spec (ev E0 K m) qa3 s c S),callP_ret])
end
section
variable {K:FuncId->Option KF} {S:St}
theorem ixB_has (l:Bs) (c:UInt8):decide ((0:Int)<=ixB l c)=l.contains c:=by
 unfold ixB;rw[List.contains_eq_any_beq,Bool.eq_iff_iff,List.any_eq_true];cases h:l.findIdx? (fun x=>x==c)with
 | none=>
  rw[List.findIdx?_eq_none_iff]at h;simp only[decide_eq_true_iff];constructor
  . intro h0; omega
  . rintro ⟨x,hx,hc⟩
    have:=h x hx;rw[beq_iff_eq]at hc;subst hc;simp at this
 | some j=>
  simp only[decide_eq_true_iff];constructor
  . intro _
    obtain⟨hj,h1,_⟩:=List.findIdx?_eq_some_iff_getElem.1 h;exact⟨l[j],List.getElem_mem hj,by rw[beq_iff_eq]at h1 ⊢; exact h1.symm⟩
  . intro _; omega
theorem w_eq (w k:Nat):qa5 E0 .eql 96 false true (.int .i64 (w:Int)) (.int .i64 (k:Int))=some (.bool (decide (w=k))):=by
 rw[binV_ii,intsV_eql]
 congr 2
 simp;omega
theorem ends_run (hK:RefL K) (m:Nat) (w:Nat) (c:UInt8) (S:St):(ev E0 K (m+3)).f 71 [.int .i64 (w:Int),.int .u8 (c.toNat:Int)] S=some (.ret (.bool (qkb w c)),S):=rv71 hK (by
 show F71 (ev E0 K (m+2)) qa3 (.int .i64 (w:Int)) (.int .u8 (c.toNat:Int)) S=_
 have hb:∀k:UInt8,decide (c.toNat=k.toNat)=(c==k):=fun k=>by
  rw[Bool.eq_iff_iff,beq_iff_eq,decide_eq_true_iff,<- UInt8.toNat_inj]
 rw[F71_eq,show(V.int .i64 0)=.int .i64 ((0:Nat):Int)from rfl,show(V.int .i64 1)=.int .i64 ((1:Nat):Int)from rfl,show(V.int .i64 2)=.int .i64 ((2:Nat):Int)from rfl,show(V.int .u8 34)=.int .u8 ((34:Nat):Int)from rfl,show(V.int .u8 125)=.int .u8 ((125:Nat):Int)from rfl,w_eq,oB];unfold qkb;by_cases h0:w=0
 . rw[dT h0,iP h0,ifK_bool,cT,ix_run hK m,callP_ret,binV_ii,intsV_geq,oB,<- ixB_has]
   rfl
 . rw[dF h0,iN h0,ifK_bool,cF,w_eq,oB]
   by_cases h1:w=1
   . rw[dT h1,iP h1,ifK_bool,cT,u8eq,oB,<- hb 34]
     rfl
   . rw[dF h1,iN h1,ifK_bool,cF,w_eq,oB]
     by_cases h2:w=2
     . rw[dT h2,iP h2,ifK_bool,cT]
     . rw[dF h2,iN h2,ifK_bool,cF,u8eq,oB,<- hb 125]
       rfl)
end
section
variable {K:FuncId->Option KF} {S:St} {b i:Nat} {s:Bs} {vT vW:V}
theorem Lx.r0 (ho:S.on=false) (h:Lx S b s i vT vW) (k:V×St->Rs):((qa1 (.ptr b 0)).bind fun t=>(faP 0 false 1 t).bind fun u=>(ld1 u S).bind k)=k (sv s,S):=by
 rw[nilK,oB,fap0,oB,h.s0f ho,oB]
theorem Lx.r1 (ho:S.on=false) (h:Lx S b s i vT vW) (k:V×St->Rs):((qa1 (.ptr b 0)).bind fun t=>(faP 1 false 1 t).bind fun u=>(ld1 u S).bind k)=k (.int .i64 (i:Int),S):=by
 rw[nilK,oB,fap1,oB,h.i1f ho,oB]
theorem Lx.l0 (ho:S.on=false) (h:Lx S b s i vT vW) (l:List LE) (k:V×St->Rs):((qa1 (.ptr b 0)).bind fun t=>(faP 0 false 1 t).bind fun u=>(ld1 u (onS (S.lg l))).bind k)=k (sv s,S.lg [⟨b,0,1,false⟩]):=by
 rw[nilK,oB,fap0,oB,qg8,llg,h.s0 ho,oB]
theorem Lx.l1 (ho:S.on=false) (h:Lx S b s i vT vW) (l:List LE) (k:V×St->Rs):((qa1 (.ptr b 0)).bind fun t=>(faP 1 false 1 t).bind fun u=>(ld1 u (onS (S.lg l))).bind k)=k (.int .i64 (i:Int),S.lg [⟨b,1,2,false⟩]):=by
 rw[nilK,oB,fap1,oB,qg8,llg,h.i1 ho,oB]
theorem Lx.o0 (ho:S.on=false) (h:Lx S b s i vT vW) (k:V×St->Rs):((qa1 (.ptr b 0)).bind fun t=>(faP 0 false 1 t).bind fun u=>(ld1 u (onS S)).bind k)=k (sv s,S.lg [⟨b,0,1,false⟩]):=by
 rw[nilK,oB,fap0,oB,qg8,h.s0 ho,oB]
theorem Lx.o1 (ho:S.on=false) (h:Lx S b s i vT vW) (k:V×St->Rs):((qa1 (.ptr b 0)).bind fun t=>(faP 1 false 1 t).bind fun u=>(ld1 u (onS S)).bind k)=k (.int .i64 (i:Int),S.lg [⟨b,1,2,false⟩]):=by
 rw[nilK,oB,fap1,oB,qg8,h.i1 ho,oB]
theorem Lx.set (ho:S.on=false) (h:Lx S b s i vT vW) (j:Nat):∃U,(∀k:V×St->Rs,((qa1 (.ptr b 0)).bind fun t=>(faP 1 false 1 t).bind fun u=>(stP 1 u (.int .i64 (j:Int)) S).bind k)=k (.tuple [],U))/\Lx U b s j vT vW/\Grew (fun x=>x=b) S U/\U.next=S.next/\U.on=false:=by
 obtain⟨U,k1,k2,k3,k4⟩:=h.put ho j;refine⟨U,fun k=>?_,k2,k3,k4,k3.on.trans ho⟩;rw[nilK,oB,fap1,oB,k1,oB]
theorem Lx.bump (ho:S.on=false) (h:Lx S b s i vT vW) (c:Nat) (hc:i+c<9223372036854775808):∃U,(∀k:V×St->Rs,((qa1 (.ptr b 0)).bind fun t=>(faP 1 false 1 t).bind fun u=>(ld1 u S).bind fun p=>(qa5 E0 .add 3 false true p.1 (.int .i64 (c:Int))).bind fun x=>(qa1 (.ptr b 0)).bind fun t=>(faP 1 false 1 t).bind fun u=>(stP 1 u x p.2).bind k)=k (.tuple [],U))/\Lx U b s (i+c) vT vW/\Grew (fun x=>x=b) S U/\U.next=S.next/\U.on=false:=by
 obtain⟨U,k1,k2⟩:=h.set ho (i+c);refine⟨U,fun k=>?_,k2⟩;rw[h.r1 ho];dsimp only;rw[addC c hc,oB,k1]
theorem Lx.bumpV (ho:S.on=false) (h:Lx S b s i vT vW) (c:Nat) (hc:i+c<9223372036854775808):∃U,(∀k:V×St->Rs,((qa1 (.ptr b 0)).bind fun t=>(faP 1 false 1 t).bind fun u=>(ld1 u S).bind fun p=>(qa5 E0 .add 3 false false p.1 (.int .i64 (c:Int))).bind fun x=>(qa1 (.ptr b 0)).bind fun t=>(faP 1 false 1 t).bind fun u=>(stP 1 u x p.2).bind k)=k (.tuple [],U))/\Lx U b s (i+c) vT vW/\Grew (fun x=>x=b) S U/\U.next=S.next/\U.on=false:=by
 obtain⟨U,k1,k2⟩:=h.set ho (i+c);refine⟨U,fun k=>?_,k2⟩;rw[h.r1 ho];dsimp only;rw[addN hc,oB,k1]
theorem namD_ge:∀(l:Bs) (n:Nat),n<=namD l n/\namD l n<=n+l.length
 | [],n=>⟨lR _,lR _⟩
 | c::l,n=>by
  unfold namD;split
  . have:=namD_ge l (n+1)
    rw[List.length_cons]; omega
  . rw[List.length_cons]; omega
theorem qmf (s m:Bs):qbr s m<=s.length:=by
 unfold qbr;split
 . cases s with
   | nil=>exact lR _
   | cons c l=>simp only[List.length_cons]; split<;>omega
 . have:=(namD_ge s 0).2; omega
theorem gtr0 (n:Nat):qa5 E0 .gtr 3 false true (.int .i64 (n:Int)) (.int .i64 0)=some (.bool (decide (0<n))):=by
 rw[binV_ii,intsV_gtr]
 congr 2
 simp
theorem eql0 (n:Nat):qa5 E0 .eql 3 false true (.int .i64 (n:Int)) (.int .i64 0)=some (.bool (decide (n=0))):=by
 rw[binV_ii,intsV_eql]
 congr 2
 simp
theorem L90_spec (hK:RefL K) (m:Nat) (nk:Ac->St->Rs) (ek:Nat->Ac->St->Rs) (v0 v1:V) (t:Bs) (ht:t.length<9223372036854775000) :
 ∀(l:Bs) (n q:Nat),t.drop n=l->l.length<q->L90_59 (ev E0 K (m+1)) qa3 nk ek q v0 v1 (sv t) (.int .i64 (n:Int)) S=ek 0 (fr 67 [(0,v0),(1,v1),(5,sv t),(6,.int .i64 (namD l n:Int))]) S
 | _,_,0,_,hq=>by omega
 | [],n,q+1,hl,hq=>by
  rw[L90_59_eq,lnStr_sv,oB];dsimp only;rw[qkg,oB,dF (by have:=qdu hl; omega)];rfl
 | c::l,n,q+1,hl,hq=>by
  obtain⟨hlt,hc,hr,_⟩:=qey hl;have ih:=L90_spec hK m nk ek v0 v1 t ht l (n+1) q hr (by rw[List.length_cons]at hq; omega);rw[L90_59_eq,lnStr_sv,oB];dsimp only;rw[qkg,oB,dT hlt];simp only[qad,oB,cT,qgm t .i64 n hlt,hc];rw[let_run hK m c,callP_ret];unfold namD;cases hL:letD c with
  | true=>
   simp only[qad,qau,qas,oB,cT,cF,Bool.not_true,Bool.true_or,↓reduceIte,callP_ret,pickV_bool,ifK_bool];rw[qei (by omega),oB,ih]
  | false=>
   simp only[qad,qau,qas,oB,cT,cF,nF,Bool.false_or];rw[gtr0,oB];by_cases h0:0<n
   . rw[dT h0]
     try simp only[qad,qau,qas,oB,cT,cF,nF,Bool.true_and]
     rw[qgm t .i64 n hlt,hc,oB]
     try simp only[qad,qau,qas,oB,cT,cF,nF,Bool.true_and]
     rw[dig_run hK m c,callP_ret]
     try simp only[qad,qau,qas,oB,cT,cF,nF,Bool.true_and,pickV_bool,ifK_bool]
     cases hD:digD c with
     | true=>rw[cT,iP rfl,qei (by omega),oB,ih]
     | false=>rw[cF,iN (by simp)]
   . rw[dF h0]
     try simp only[qad,qau,qas,oB,cT,cF,nF,Bool.false_and,callP_ret,pickV_bool,ifK_bool,Bool.false_eq_true,↓reduceIte]
theorem ixB_neg (l:Bs) (c:UInt8):qa5 E0 .geq 3 false true (.int .i64 (ixB l c)) (.int .i64 0)=some (.bool (l.contains c)):=by
 rw[binV_ii,intsV_geq,<- ixB_has]
theorem qmg (hK:RefL K) (m:Nat) (ho:S.on=false) (h:Lx S b s i vT vW) (hi:i<=s.length) (hs:s.length<9223372036854770000) (mk:Bs) :
 ∃U,(ev E0 K (m+3)).f 90 [.ptr b 0,sv mk] S=some (.ret (sv ((s.drop i).take (qbr (s.drop i) mk))),U)/\Lx U b s (i+qbr (s.drop i) mk) vT vW/\Grew (fun x=>x=b) S U/\U.next=S.next/\U.on=false:=by
 have hlen:(s.drop i).length=s.length-i:=List.length_drop;have hple:=qmf (s.drop i) mk;obtain⟨U,k1,k2⟩:=h.set ho (i+qbr (s.drop i) mk);refine⟨U,rv90 hK ?_,k2⟩;show F90 (ev E0 K (m+2)) qa3 (.ptr b 0) (sv mk) S=_;rw[F90_eq,h.o0 ho];dsimp only;rw[h.l1 ho];dsimp only;rw[qg8,llg,qbd und9 s (qdi .i64 hi) (lR _),oB];dsimp only;rw[qcu (by rfl),qg8,llg,qd2 ho,List.take_of_length_le (by rw[List.length_drop]; omega),show V.int .i64 0=.int .i64 ((0:Nat):Int)from rfl,L90_spec hK (m+1) _ _ _ _ (s.drop i) (by omega) (s.drop i) 0 qa3 rfl (by unfold qa3; omega),exB_same,R90_13_eq,eql0,oB]
 have fin:∀x:Bool,((qa1 (.ptr b 0)).bind fun t=>(faP 1 false 1 t).bind fun u=>(ld1 u S).bind fun p=>(qa5 E0 .add 3 false x p.1 (.int .i64 (qbr (s.drop i) mk:Int))).bind fun x=>(qa1 (.ptr b 0)).bind fun t=>(faP 1 false 1 t).bind fun u=>(stP 1 u x p.2).bind fun p=>(qak E0 9 (sv (s.drop i)) none (some (.int .i64 (qbr (s.drop i) mk:Int))) none p.2).bind fun p57=>some (En.ret p57.1,p57.2))=some (.ret (sv ((s.drop i).take (qbr (s.drop i) mk))),U):=fun x=>by
  rw[h.r1 ho];dsimp only
  rw[show qa5 E0 .add 3 false x (.int .i64 (i:Int)) (.int .i64 (qbr (s.drop i) mk:Int))=some (.int .i64 ((i+qbr (s.drop i) mk:Nat):Int)) by
   rw[binV_ii,intsV_add,show((i:Int)+(qbr (s.drop i) mk:Int))=((i+qbr (s.drop i) mk:Nat):Int) by omega,qg0 (by omega) (by omega)],oB,k1]
  dsimp only;rw[qbd und9 _ (qdh .i64 hple) hple,oB,List.drop_zero,Nat.sub_zero]
 have f1:=fin false;by_cases h0:namD (s.drop i) 0=0
 . have hp:qbr (s.drop i) mk=match s.drop i with
    | []=>0
    | c::_=>if digD c||mk.contains c then 1 else 0:=by
    unfold qbr;rw[iP h0];rfl
   rw[dT h0,h0];simp only[qad,qau,qas,oB,cT,cF];cases hd:s.drop i with
   | nil=>
    rw[hd]at hp f1;rw[show qa5 E0 .neq 9 false true (sv []) (sv [])=some (.bool false)from neStr _ _ _ _,oB]
    try simp only[qad,qau,qas,oB,cT,cF,callP_ret,pickV_bool,ifK_bool,Bool.not_true,nF]
    rw[hp]at f1 ⊢;exact f1
   | cons c l=>
    rw[hd]at hp f1;have hp:qbr (c::l) mk=if digD c||mk.contains c then 1 else 0:=hp
    rw[show qa5 E0 .neq 9 false true (sv (c::l)) (sv [])=some (.bool true)from neStr _ _ _ _,oB]
    try simp only[qad,qau,qas,oB,cT,cF,callP_ret,pickV_bool,ifK_bool,Bool.not_true,nF]
    rw[show ixS (sv (c::l)) (.int .i64 0)=some (.int .u8 (c.toNat:Int))from qgm (c::l) .i64 0 (by simp),oB]
    try simp only[qad,qau,qas,oB,cT,cF]
    rw[dig_run hK (m+1) c,callP_ret]
    try simp only[qad,qau,qas,oB,cT,cF]
    have f2:=fin true;rw[hd]at f2;cases hD:digD c with
    | true=>
     rw[hD]at hp;simp only[Bool.true_or,↓reduceIte]at hp
     try simp only[qad,qau,qas,oB,cT,cF,callP_ret,pickV_bool,ifK_bool,Bool.not_true,nF]
     rw[hp]at f1 ⊢;exact f1
    | false=>
     rw[hD]at hp;simp only[Bool.false_or]at hp
     try simp only[qad,qau,qas,oB,cT,cF,callP_ret,pickV_bool,ifK_bool,Bool.not_true,nF]
     rw[show ixS (sv (c::l)) (.int .i64 0)=some (.int .u8 (c.toNat:Int))from qgm (c::l) .i64 0 (by simp),oB]
     try simp only[qad,qau,qas,oB,cT,cF]
     rw[ix_run hK m,callP_ret]
     try simp only[qad,qau,qas,oB,cT,cF]
     rw[ixB_neg,oB];cases hM:mk.contains c with
     | true=>
      rw[hM]at hp;simp only[↓reduceIte]at hp
      try simp only[qad,qau,qas,oB,cT,cF,callP_ret,pickV_bool,ifK_bool,Bool.not_true,nF]
      rw[hp]at f1 ⊢;exact f1
     | false=>
      rw[hM]at hp;simp only[Bool.false_eq_true,↓reduceIte]at hp
      try simp only[qad,qau,qas,oB,cT,cF,callP_ret,pickV_bool,ifK_bool,Bool.not_true,nF]
      rw[hp]at f1 ⊢;exact f1
 . have hp:qbr (s.drop i) mk=namD (s.drop i) 0:=by
    unfold qbr;rw[iN h0]
   rw[dF h0];simp only[qad,qau,qas,oB,cT,cF,callP_ret,pickV_bool,ifK_bool,Bool.not_true,nF];rw[<- hp];exact f1
end
def Bad (W:Nat->Prop) (S:St) (r:Rs) (c n:Nat):Prop:=∃U x,r=some (.pan (.iface 51 (.ptr x 0)),U)/\AgAt U x 52 2 (qjx c n)/\S.next<=x/\x<U.next/\Grew W S U
section
variable {K:FuncId->Option KF} {S T:St} {b i:Nat} {s:Bs} {vT vW:V} {W V':Nat->Prop} {r:Rs} {c n:Nat}
theorem Bad.callP (h:Bad W S r c n) (k:V->St->Rs):Bad W S (callP r k) c n:=by
 obtain⟨U,x,rfl,h2⟩:=h;exact⟨U,x,rfl,h2⟩
theorem Bad.mono (h:Bad W S r c n) (hW:∀x,W x->V' x):Bad V' S r c n:=by
 obtain⟨U,x,h1,h2,h3,h4,h5⟩:=h;exact⟨U,x,h1,h2,h3,h4,h5.mono fun x _ hx=>hW x hx⟩
theorem Bad.after (g:Grew W S T) (h:Bad W T r c n):Bad W S r c n:=by
 obtain⟨U,x,h1,h2,h3,h4,h5⟩:=h;exact⟨U,x,h1,h2,Nat.le_trans g.next h3,h4,g.trans h5⟩
theorem qc7 (hK:RefL K) (m:Nat) (ho:S.on=false) (c n:Nat):Bad (fun _=>False) S ((ev E0 K (m+1)).f 25 [.int .i64 (c:Int),.int .i64 (n:Int)] S) c n:=by
 obtain⟨U,k1,k2,k3,k4⟩:=fail_run hK m ho c n;exact⟨U,S.next,k1,k2,lR _,by omega,k3⟩
theorem qjq (c k:UInt8):qa5 E0 .eql 5 false true (.int .u8 (c.toNat:Int)) (.int .u8 (k.toNat:Int))=some (.bool (decide (c=k))):=by
 rw[u8eq]
 congr 2
 rw[decide_eq_decide,<- UInt8.toNat_inj]
theorem ixB_idx (s:Bs) (i:Nat) (c:UInt8):ixB (s.drop i) c=match qf0 s i c with
 | none=>-1
 | some k=>((k-i:Nat):Int):=by
 unfold ixB qf0;cases(s.drop i).findIdx? (fun x=>x==c)with
 | none=>rfl
 | some j=>simp
theorem qdo {s:Bs} {i k:Nat} {c:UInt8} (h:qf0 s i c=some k):i<=k/\k<s.length:=by
 unfold qf0 at h;cases hf:(s.drop i).findIdx? (fun x=>x==c)with
 | none=>rw[hf]at h; cases h
 | some j=>
  rw[hf]at h;obtain⟨hj,_⟩:=List.findIdx?_eq_some_iff_getElem.1 hf;rw[List.length_drop]at hj;simp at h;omega
theorem lt0 (z:Int):qa5 E0 .lss 3 false true (.int .i64 z) (.int .i64 0)=some (.bool (decide (z<0))):=by
 rw[binV_ii,intsV_lss]
theorem subC (k:Nat) {i:Nat} (hk:k<=i) (h:i<9223372036854775808):qa5 E0 .sub 3 false true (.int .i64 (i:Int)) (.int .i64 (k:Int))=some (.int .i64 ((i-k:Nat):Int)):=by
 rw[binV_ii,intsV_sub,show((i:Int)-(k:Int))=((i-k:Nat):Int) by omega,qg0 (by omega) (by omega)]
theorem qbh {s:Bs} {i:Nat} (h:i<s.length) (c:UInt8):atD s i [c]=decide (byt s i=c):=by
 unfold atD;rw[List.drop_eq_getElem_cons h,qfn h];show([byt s i]==[c])=_;rw[Bool.eq_iff_iff,beq_iff_eq,decide_eq_true_iff,List.cons.injEq];simp
theorem atD_len {s:Bs} {i:Nat} {t:Bs} (h:atD s i t=true):i<=s.length->i+t.length<=s.length:=by
 intro hi;unfold atD at h;rw[beq_iff_eq]at h;have:=congrArg List.length h;rw[List.length_take,List.length_drop]at this;omega
abbrev CloR (o:Option Nat) (S:St) (b i:Nat) (s:Bs) (vT vW:V) (r:Rs) (frm:Nat):Prop:=match o with
 | some j=>i<j/\j<=s.length/\∃U,r=some (.ret (.tuple []),U)/\Lx U b s j vT vW/\Grew (fun x=>x=b) S U/\U.next=S.next/\U.on=false
 | none=>Bad (fun x=>x=b) S r 19 frm
def CloOk (K:FuncId->Option KF) (n:Nat):Prop:=∀(d q:Nat) (S:St) (b i deep frm:Nat) (s:Bs) (vT vW:V) (nk:Ac->St->Rs) (ek:Nat->Ac->St->Rs),S.on=false->b<S.next->Lx S b s i vT vW->s.length<9223372036854770000->i<=s.length+1->0<deep->deep+n<9223372036854775000->n+8<=d->n<q->s.length+1<=n+i->
 (∀T,T.on=false->Bad (fun _=>False) T (ek 0 (fr 77 [(1,.int .i64 (frm:Int))]) T) 19 frm)->
 CloR (qhf n s i deep) S b i s vT vW (qk8 (ev E0 K d) qa3 nk ek q (.ptr b 0) (.int .i64 (frm:Int)) (.int .i64 (deep:Int)) S) frm
def QuoOk (K:FuncId->Option KF) (n:Nat):Prop:=∀(d q:Nat) (S:St) (b i frm:Nat) (s:Bs) (vT vW:V) (nk:Ac->St->Rs) (ek:Nat->Ac->St->Rs),S.on=false->b<S.next->Lx S b s i vT vW->s.length<9223372036854770000->i<=s.length+1->n<9223372036854770000->n+8<=d->n<q->s.length+1<=n+i->
 (∀T,T.on=false->Bad (fun _=>False) T (ek 0 (fr 34 [(1,.int .i64 (frm:Int))]) T) 19 frm)->
 CloR (qkj n s i) S b i s vT vW (L98_3 (ev E0 K d) qa3 nk ek q (.ptr b 0) (.int .i64 (frm:Int)) S) frm
theorem bad0 (h:Bad (fun _=>False) S r c n):Bad W S r c n:=h.mono fun _ h=>h.elim
theorem clo_call (hK:RefL K) {n:Nat} (hC:CloOk K n) (d:Nat) (S:St) (b i frm:Nat) (s:Bs) (vT vW:V) (ho:S.on=false) (hb:b<S.next) (h:Lx S b s i vT vW) (hs:s.length<9223372036854770000) (hi:i<=s.length+1) (hn:n<9223372036854770000) (hd:n+8<=d) (hr:n<qa3) (hf:s.length+1<=n+i) :
 CloR (qhf n s i 1) S b i s vT vW ((ev E0 K (d+1)).f 88 [.ptr b 0,.int .i64 (frm:Int)] S) frm:=by
 obtain⟨d',rfl⟩:∃d',d=d'+1:=⟨d-1,by omega⟩
 have hek:∀T:St,T.on=false->Bad (fun _=>False) T (exB 0 (R88_0 (ev E0 K (d'+1)) qa3 (qcn E0 (ev E0 K (d'+1)) Tryd.f88) qb0) qb0 0 (fr 77 [(1,.int .i64 (frm:Int))]) T) 19 frm:=fun T hT=>by
  rw[exB_same,R88_0_eq];exact(qc7 hK d' hT 19 frm).callP _
 have:=hC (d'+1) qa3 S b i 1 frm s vT vW (R88_0 (ev E0 K (d'+1)) qa3 (qcn E0 (ev E0 K (d'+1)) Tryd.f88) qb0) (exB 0 (R88_0 (ev E0 K (d'+1)) qa3 (qcn E0 (ev E0 K (d'+1)) Tryd.f88) qb0) qb0) ho hb h hs hi (by omega) (by omega) hd hr hf hek;have e:∀r,F88 (ev E0 K (d'+1)) qa3 (.ptr b 0) (.int .i64 (frm:Int)) S=some r->(ev E0 K (d'+1+1)).f 88 [.ptr b 0,.int .i64 (frm:Int)] S=some r:=fun r hr=>rv88 hK hr;have e2:=F88_eq (ev E0 K (d'+1)) qa3 (.ptr b 0) (.int .i64 (frm:Int)) S;cases hc:qhf n s i 1 with
 | some j=>
  rw[hc]at this;obtain⟨h1,h2,U,h3,h4⟩:=this;exact⟨h1,h2,U,e _ (e2.trans h3),h4⟩
 | none=>
  rw[hc]at this;obtain⟨U,x,h1,h2⟩:=this;exact⟨U,x,e _ (e2.trans h1),h2⟩
theorem quo_call (hK:RefL K) {n:Nat} (hC:QuoOk K n) (d:Nat) (S:St) (b i frm:Nat) (s:Bs) (vT vW:V) (ho:S.on=false) (hb:b<S.next) (h:Lx S b s i vT vW) (hs:s.length<9223372036854770000) (hi:i<=s.length+1) (hn:n<9223372036854770000) (hd:n+8<=d) (hr:n<qa3) (hf:s.length+1<=n+i) :
 CloR (qkj n s i) S b i s vT vW ((ev E0 K (d+1)).f 98 [.ptr b 0,.int .i64 (frm:Int)] S) frm:=by
 obtain⟨d',rfl⟩:∃d',d=d'+1:=⟨d-1,by omega⟩
 have hek:∀T:St,T.on=false->Bad (fun _=>False) T (exB 0 (R98_0 (ev E0 K (d'+1)) qa3 (qcn E0 (ev E0 K (d'+1)) Tryd.f98) qb0) qb0 0 (fr 34 [(1,.int .i64 (frm:Int))]) T) 19 frm:=fun T hT=>by
  rw[exB_same,R98_0_eq];exact(qc7 hK d' hT 19 frm).callP _
 have:=hC (d'+1) qa3 S b i frm s vT vW (R98_0 (ev E0 K (d'+1)) qa3 (qcn E0 (ev E0 K (d'+1)) Tryd.f98) qb0) (exB 0 (R98_0 (ev E0 K (d'+1)) qa3 (qcn E0 (ev E0 K (d'+1)) Tryd.f98) qb0) qb0) ho hb h hs hi hn hd hr hf hek;have e:∀r,F98 (ev E0 K (d'+1)) qa3 (.ptr b 0) (.int .i64 (frm:Int)) S=some r->(ev E0 K (d'+1+1)).f 98 [.ptr b 0,.int .i64 (frm:Int)] S=some r:=fun r hr=>rv98 hK hr;have e2:=F98_eq (ev E0 K (d'+1)) qa3 (.ptr b 0) (.int .i64 (frm:Int)) S;cases hc:qkj n s i with
 | some j=>
  rw[hc]at this;obtain⟨h1,h2,U,h3,h4⟩:=this;exact⟨h1,h2,U,e _ (e2.trans h3),h4⟩
 | none=>
  rw[hc]at this;obtain⟨U,x,h1,h2⟩:=this;exact⟨U,x,e _ (e2.trans h1),h2⟩
theorem fwd {o:Option Nat} {b i i':Nat} {s:Bs} {vT vW:V} {S T:St} {r r':Rs} {frm:Nat} (he:r=r') (g:Grew (fun x=>x=b) S T) (hn:T.next=S.next) (hi:i<=i') (h:CloR o T b i' s vT vW r' frm):CloR o S b i s vT vW r frm:=by
 subst he;cases o with
 | some j=>
  obtain⟨h1,h2,U,h3,h4,h5,h6,h7⟩:=h;exact⟨by omega,h2,U,h3,h4,g.trans h5,h6.trans hn,h7⟩
 | none=>exact Bad.after g h
theorem clo_step (hK:RefL K) {n:Nat} (hC:CloOk K n) (hQ:QuoOk K n) (hn0:n<9223372036854770000):CloOk K (n+1):=by
 intro d q S b i deep frm s vT vW nk ek ho hb h hs hi hdp hdn hd hq hf hek;obtain⟨d',rfl⟩:∃d',d=d'+8:=⟨d-8,by omega⟩
 obtain⟨q',rfl⟩:∃q',q=q'+1:=⟨q-1,by omega⟩
 unfold qhf;by_cases hlt:i<s.length
 . rw[iP hlt]
   obtain⟨U,k1,k2,k3,k4,k5⟩:=h.bump ho 1 (by omega);have hbU:b<U.next:=by omega
   have go:∀(U':St) (i' deep':Nat),U'.on=false->Grew (fun x=>x=b) S U'->U'.next=S.next->Lx U' b s i' vT vW->i<i'->i'<=s.length+1->0<deep'->deep'<=deep+1->∀r,r=qk8 (ev E0 K (d'+8)) qa3 nk ek q' (.ptr b 0) (.int .i64 (frm:Int)) (.int .i64 (deep':Int)) U'->
    CloR (qhf n s i' deep') S b i s vT vW (r) frm:=fun U' i' deep' o1 g1 n1 l1 a1 a2 a3 a4 r hr=>
    fwd (i:=i) (i':=i') hr g1 n1 (by omega) (hC (d'+8) q' U' b i' deep' frm s vT vW nk ek o1 (by omega) l1 hs a2 a3 (by omega) (by omega) (by omega) (by omega) hek)
   have hL:qk8 (ev E0 K (d'+8)) qa3 nk ek (q'+1) (.ptr b 0) (.int .i64 (frm:Int)) (.int .i64 (deep:Int)) S=_:=L88_4_eq ..;rw[qen hK (d'+7) ho h,callP_ret,dT hlt,ifK_bool,cT,h.o0 ho]at hL;dsimp only at hL;rw[h.l1 ho]at hL;dsimp only at hL;rw[qgm _ _ _ hlt,oB,qcu (by rfl),qg8,llg,qd2 ho,qfn hlt,show V.int .i64 1=.int .i64 ((1:Nat):Int)from rfl,k1]at hL;dsimp only at hL;rw[show V.int .u8 92=.int .u8 ((92:UInt8).toNat:Int)from rfl,qjq,oB,ifK_bool]at hL;by_cases h92:byt s i=92
   . rw[iP h92]
     obtain⟨U2,j1,j2,j3,j4,j5⟩:=k2.bump k5 1 (by omega);rw[dT h92,cT,j1]at hL;exact go U2 (i+2) deep j5 (k3.trans j3) (by omega) j2 (by omega) (by omega) hdp (by omega) _ hL
   . rw[iN h92]
     rw[dF h92,cF,show V.int .u8 39=.int .u8 ((39:UInt8).toNat:Int)from rfl,qjq,oB,ifK_bool]at hL;by_cases h39:byt s i=39
     . rw[iP h39]
       rw[dT h39,cT,k2.o0 k5]at hL;dsimp only at hL;rw[k2.l1 k5]at hL;dsimp only at hL;rw[qg8,llg,qbd und9 s (qdi .i64 (by omega)) (lR _),oB,List.take_of_length_le (by rw[List.length_drop]; omega)]at hL;dsimp only at hL;rw[qg8,llg,ix_run hK (d'+6),qby,qcu (by rfl),qg8,llg,qd2 k5,lt0,oB,ifK_bool,ixB_idx]at hL;cases hx:qf0 s (i+1) 39 with
       | none=>
        rw[hx]at hL;dsimp only at hL;rw[show decide ((-1:Int)<0)=true from rfl,cT]at hL;rw[hL];exact Bad.after k3 (bad0 ((qc7 hK (d'+7) k5 19 frm).callP _))
       | some k=>
        obtain⟨x1,x2⟩:=qdo hx;obtain⟨U2,j1,j2,j3,j4,j5⟩:=k2.bumpV k5 (k-(i+1)+1) (by omega);rw[hx]at hL;dsimp only at hL;rw[show decide ((((k-(i+1):Nat):Int))<0)=false by simp,cF]at hL;have hsw:(V.int .i64 ((1:Nat):Int))=V.int .i64 1:=rfl;rw[k2.r1 k5]at hL;dsimp only at hL;rw[addC 1 (by omega),oB]at hL;have:=j1;rw[addN (by omega),oB]at hL;obtain⟨U3,z1,z2,z3,z4,z5⟩:=k2.set k5 (i+1+(k-(i+1)+1));rw[z1]at hL;rw[show i+1+(k-(i+1)+1)=k+1 by omega]at z2;exact go U3 (k+1) deep z5 (k3.trans z3) (by omega) z2 (by omega) (by omega) hdp (by omega) _ hL
     . rw[iN h39]
       rw[dF h39,cF,show V.int .u8 34=.int .u8 ((34:UInt8).toNat:Int)from rfl,qjq,oB,ifK_bool]at hL;by_cases h34:byt s i=34
       . rw[iP h34]
         rw[dT h34,cT]at hL;have hqc:=quo_call hK hQ (d'+7) U b (i+1) frm s vT vW k5 hbU k2 hs (by omega) hn0 (by omega) (by unfold qa3; omega) (by omega);cases hqd:qkj n s (i+1)with
         | none=>
          rw[hqd]at hqc;dsimp only;rw[hL];exact Bad.after k3 (hqc.callP _)
         | some j=>
          rw[hqd]at hqc;obtain⟨a1,a2,U2,a3,a4,a5,a6,a7⟩:=hqc;rw[a3,callP_ret]at hL;dsimp only;exact go U2 j deep a7 (k3.trans a5) (by omega) a4 (by omega) (by omega) hdp (by omega) _ hL
       . rw[iN h34]
         rw[dF h34,cF,show V.int .u8 40=.int .u8 ((40:UInt8).toNat:Int)from rfl,qjq,oB,ifK_bool]at hL;by_cases h40:byt s i=40
         . rw[iP h40]
           rw[dT h40,cT,addC 1 (by omega),oB]at hL;exact go U (i+1) (deep+1) k5 k3 k4 k2 (by omega) (by omega) (by omega) (by omega) _ hL
         . rw[iN h40]
           rw[dF h40,cF,show V.int .u8 41=.int .u8 ((41:UInt8).toNat:Int)from rfl,qjq,oB,ifK_bool]at hL;by_cases h41:byt s i=41
           . rw[iP h41]
             rw[dT h41,cT,subC 1 (by omega) (by omega),oB,eql0,oB,ifK_bool]at hL;by_cases h1:deep=1
             . rw[iP h1]
               rw[dT (by omega),cT]at hL;exact⟨by omega,by omega,U,hL,k2,k3,k4,k5⟩
             . rw[iN h1]
               rw[dF (by omega),cF]at hL;exact go U (i+1) (deep-1) k5 k3 k4 k2 (by omega) (by omega) (by omega) (by omega) _ hL
           . rw[iN h41]
             rw[dF h41,cF]at hL;exact go U (i+1) deep k5 k3 k4 k2 (by omega) (by omega) hdp (by omega) _ hL
 . rw[iN hlt]
   show Bad _ _ _ _ _;rw[L88_4_eq,qen hK (d'+7) ho h,callP_ret,dF hlt,ifK_bool,cF];exact bad0 (hek S ho)
theorem quo_step (hK:RefL K) {n:Nat} (hC:CloOk K n) (hQ:QuoOk K n) (hn0:n<9223372036854760000):QuoOk K (n+1):=by
 intro d q S b i frm s vT vW nk ek ho hb h hs hi hdn hd hq hf hek;obtain⟨d',rfl⟩:∃d',d=d'+8:=⟨d-8,by omega⟩
 obtain⟨q',rfl⟩:∃q',q=q'+1:=⟨q-1,by omega⟩
 unfold qkj;have hL:L98_3 (ev E0 K (d'+8)) qa3 nk ek (q'+1) (.ptr b 0) (.int .i64 (frm:Int)) S=_:=L98_3_eq ..;by_cases hlt:i<s.length
 . rw[iP hlt]
   have go:∀(U':St) (i':Nat),U'.on=false->Grew (fun x=>x=b) S U'->U'.next=S.next->Lx U' b s i' vT vW->i<i'->i'<=s.length+1->∀r,r=L98_3 (ev E0 K (d'+8)) qa3 nk ek q' (.ptr b 0) (.int .i64 (frm:Int)) U'->
    CloR (qkj n s i') S b i s vT vW (r) frm:=fun U' i' o1 g1 n1 l1 a1 a2 r hr=>
    fwd (i:=i) (i':=i') hr g1 n1 (by omega) (hQ (d'+8) q' U' b i' frm s vT vW nk ek o1 (by omega) l1 hs a2 (by omega) (by omega) (by omega) (by omega) hek)
   rw[qen hK (d'+7) ho h,callP_ret,dT hlt,ifK_bool,cT]at hL;have hbeg:∀t,begD (s.drop i) t=atD s i t:=fun t=>rfl;by_cases h92:byt s i=92
   . rw[iP h92]
     obtain⟨U,k1,k2,k3,k4⟩:=qb2 hK (d'+4) ho h (by omega) (t:=[92]) (by simp; omega) (by rw[hbeg,qbh hlt,dT h92]);have k5:=k3.on.trans ho;obtain⟨U2,j1,j2,j3,j4,j5⟩:=k2.bump k5 1 (by simp; omega);rw[k1,callP_ret,ifK_bool,cT,show V.int .i64 1=.int .i64 ((1:Nat):Int)from rfl,j1]at hL;exact go U2 (i+2) j5 (k3.trans j3) (by omega) j2 (by omega) (by omega) _ hL
   . rw[iN h92]
     rw[qbc hK (d'+4) ho h (by omega) (t:=[92]) (by rw[hbeg,qbh hlt,dF h92]),callP_ret,ifK_bool,cF]at hL;by_cases h34:byt s i=34
     . rw[iP h34]
       obtain⟨U,k1,k2,k3,k4⟩:=qb2 hK (d'+4) ho h (by omega) (t:=[34]) (by simp; omega) (by rw[hbeg,qbh hlt,dT h34]);rw[k1,callP_ret,ifK_bool,cT]at hL;exact⟨by omega,by omega,U,hL,k2,k3,k4,k3.on.trans ho⟩
     . rw[iN h34]
       rw[qbc hK (d'+4) ho h (by omega) (t:=[34]) (by rw[hbeg,qbh hlt,dF h34]),callP_ret,ifK_bool,cF]at hL;cases h36:atD s i [36,40]with
       | true=>
        obtain⟨U,k1,k2,k3,k4⟩:=qb2 hK (d'+4) ho h (by omega) (t:=[36,40]) (by simp; omega) h36;have hle:=atD_len h36 (by omega);have k5:=k3.on.trans ho;simp only[List.length_cons,List.length_nil]at k2 hle;rw[k1,callP_ret,ifK_bool,cT]at hL;have hqc:=clo_call hK hC (d'+7) U b (i+2) frm s vT vW k5 (by omega) k2 hs (by omega) (by omega) (by omega) (by unfold qa3; omega) (by omega);rw[iP rfl];cases hqd:qhf n s (i+2) 1 with
        | none=>
         rw[hqd]at hqc;dsimp only;rw[hL];exact Bad.after k3 (hqc.callP _)
        | some j=>
         rw[hqd]at hqc;obtain⟨a1,a2,U2,a3,a4,a5,a6,a7⟩:=hqc;rw[a3,callP_ret]at hL;dsimp only;exact go U2 j a7 (k3.trans a5) (by omega) a4 (by omega) (by omega) _ hL
       | false=>
        rw[iN (by simp)];obtain⟨U,k1,k2,k3,k4,k5⟩:=h.bump ho 1 (by omega);rw[qbc hK (d'+4) ho h (by omega) (t:=[36,40]) h36,callP_ret,ifK_bool,cF,show V.int .i64 1=.int .i64 ((1:Nat):Int)from rfl,k1]at hL;exact go U (i+1) k5 k3 k4 k2 (by omega) (by omega) _ hL
 . rw[iN hlt]
   show Bad _ _ _ _ _;rw[hL,qen hK (d'+7) ho h,callP_ret,dF hlt,ifK_bool,cF];exact bad0 (hek S ho)
theorem clo_zero (hK:RefL K):CloOk K 0:=by
 intro d q S b i deep frm s vT vW nk ek ho hb h hs hi hdp hdn hd hq hf hek;obtain⟨d',rfl⟩:∃d',d=d'+8:=⟨d-8,by omega⟩
 obtain⟨q',rfl⟩:∃q',q=q'+1:=⟨q-1,by omega⟩
 show Bad _ _ _ _ _;rw[L88_4_eq,qen hK (d'+7) ho h,callP_ret,dF (by omega),ifK_bool,cF];exact bad0 (hek S ho)
theorem quo_zero (hK:RefL K):QuoOk K 0:=by
 intro d q S b i frm s vT vW nk ek ho hb h hs hi hdn hd hq hf hek;obtain⟨d',rfl⟩:∃d',d=d'+8:=⟨d-8,by omega⟩
 obtain⟨q',rfl⟩:∃q',q=q'+1:=⟨q-1,by omega⟩
 show Bad _ _ _ _ _;rw[L98_3_eq,qen hK (d'+7) ho h,callP_ret,dF (by omega),ifK_bool,cF];exact bad0 (hek S ho)
theorem clo_quo (hK:RefL K):∀n,n<9223372036854760000->CloOk K n/\QuoOk K n
 | 0,_=>⟨clo_zero hK,quo_zero hK⟩
 | n+1,hn=>by
  obtain⟨h1,h2⟩:=clo_quo hK n (by omega);exact⟨clo_step hK h1 h2 (by omega),quo_step hK h1 h2 (by omega)⟩
theorem closed_run (hK:RefL K) (n d:Nat) {S:St} {b i:Nat} (frm:Nat) {s:Bs} {vT vW:V} (ho:S.on=false) (hb:b<S.next) (h:Lx S b s i vT vW) (hs:s.length<9223372036854770000) (hi:i<=s.length+1) (hn:n<9223372036854760000) (hd:n+8<=d) (hf:s.length+1<=n+i) :
 CloR (qhf n s i 1) S b i s vT vW ((ev E0 K (d+1)).f 88 [.ptr b 0,.int .i64 (frm:Int)] S) frm:=
 clo_call hK (clo_quo hK n hn).1 d S b i frm s vT vW ho hb h hs hi (by omega) hd (by unfold qa3; omega) hf
end
section
variable {S U T:St}
def RV (S:St) (v:V) (e z:Nat) (ts:List (Tr V)):Prop:=(ts=[]/\v=.nilslice)\/∃r,RowAt S r e z ts/\r<S.next/\0<ts.length/\(v=.oslice r 0 ts.length z\/v=.slice r 0 ts.length ts.length)
theorem RV.len {v:V} {e z:Nat} {ts:List (Tr V)} (h:RV S v e z ts) (T:St):lnS v T=some (.int .i64 (ts.length:Int),T):=by
 rcases h with⟨rfl,rfl⟩|⟨r,_,_,_,rfl|rfl⟩<;>rfl
theorem RV.at {v:V} {e z:Nat} {ts:List (Tr V)} (h:RV S v e z ts) {i:Nat} (hi:i<ts.length):∃r,qai v=some r/\ixP z v (.int .i64 (i:Int))=some (.ptr r (i*z))/\RowAt S r e z ts/\r<S.next:=by
 rcases h with⟨rfl,_⟩|⟨r,h1,h2,h3,rfl|rfl⟩
 . simp at hi
 . refine⟨r,rfl,?_,h1,h2⟩
   show(bif Nat.blt i ts.length then some (V.ptr r (0+i*z))else none)=_;rw[blt_true.2 hi,cT,Nat.zero_add]
 . refine⟨r,rfl,?_,h1,h2⟩
   show(bif Nat.blt i ts.length then some (V.ptr r (0+i*z))else none)=_;rw[blt_true.2 hi,cT,Nat.zero_add]
theorem RV.grew {W:Nat->Prop} {v:V} {e z:Nat} {ts:List (Tr V)} (h:RV S v e z ts) (hw:∀r,qai v=some r->¬W r) (g:Grew W S U):RV U v e z ts:=by
 rcases h with h|⟨r,h1,h2,h3,h4⟩
 . exact .inl h
 . exact .inr ⟨r,h1.grew h2 (hw r (by rcases h4 with rfl|rfl<;>rfl)) g,Nat.lt_of_lt_of_le h2 g.next,h3,h4⟩
theorem RV.blk_lt {v:V} {e z:Nat} {ts:List (Tr V)} (h:RV S v e z ts) {r:Nat} (hr:qai v=some r):r<S.next:=by
 rcases h with⟨_,rfl⟩|⟨r',h1,h2,h3,rfl|rfl⟩
 . cases hr
 . cases hr; exact h2
 . cases hr; exact h2
theorem nw_log {s:St} (ho:s.on=false) (o:O):(nw s o).log=s.log:=by
 unfold nw;rw[qbu ho]; rfl
def PV (S:St) (z:Nat) (y:V) (m:List (Tr V)):Prop:=lenV y=some m.length/\qbp z m.length y S=some (m,S)
theorem RowAt.all (ho:S.on=false) {b e z:Nat} {l:List (Tr V)} (h:RowAt S b e z l) (i n:Nat) (hn:i+n<=l.length):ldN b z n (i*z) S=some ((l.drop i).take n,S):=h.ldN ho n i hn
theorem qmv (ho:S.on=false) {r e z:Nat} {l:List (Tr V)} (h:RowAt S r e z l):sizeB S r=some (z*l.length,S):=by
 obtain⟨c,h1,_⟩:=h.row;unfold sizeB;rw[h1];simp only[blt_true.2 h.fit,cT,qbu ho]
theorem RV.cat {v y:V} {e z B:Nat} {ts m:List (Tr V)} (h:RV S v e z ts) (ho:S.on=false) (h0:0<z) (hy:PV S z y m) (hl:ts.length+m.length<=100000) (hB:B+z<=1000):∃v' U,apP e z B v y S=some (v',U)/\RV U v' e z (ts++m)/\Grew (fun x=>qai v=some x) S U/\(∀r,qai v'=some r->qai v=some r\/S.next<=r)/\U.log=S.log:=by
 obtain⟨y1,y2⟩:=hy;have hlen:lenV v=some ts.length:=by rcases h with⟨rfl,rfl⟩|⟨r,_,_,_,rfl|rfl⟩<;>rfl
 have hap:apP e z B v y S=qew e z m.length v y S:=by
  have hmx:(ts.length+m.length)*(B+z+1)<qb5:=by
   have:(ts.length+m.length)*(B+z+1)<=100000*1001:=Nat.mul_le_mul hl (by omega);unfold qb5; omega
  unfold apP;rw[y1,oB,hlen,oB,blt_true.2 hmx,cT]
 have hfit:z*(ts++m).length<big:=by
  have:z*(ts.length+m.length)<=1000*100000:=Nat.mul_le_mul (by omega) hl;rw[lAq]; unfold big; omega
 rw[hap];unfold qew;rw[y2,oB];rcases Nat.eq_zero_or_pos m.length with hm|hm
 . have hme:m=[]:=List.eq_nil_of_length_eq_zero hm
   subst hme;refine⟨v,S,?_,by rw[List.append_nil]; exact h,Grew.refl _ _,fun r hr=>.inl hr,rfl⟩;rcases h with⟨rfl,rfl⟩|⟨r,h1,h2,h3,rfl|rfl⟩
   . rfl
   . simp only[List.length_nil,Nat.add_zero,Nat.beq_refl,cT,Nat.zero_add]
     rw[qmv ho h1,oB];simp only;rw[ble_true.2 (show ts.length*z<=z*ts.length by rw[Nat.mul_comm]; exact lR _),cT]; rfl
   . simp only[List.length_nil,Nat.add_zero]
     rw[ble_true.2 (lR _),cT]; rfl
 . rcases h with⟨rfl,rfl⟩|⟨r,h1,h2,h3,rfl|rfl⟩
   . refine⟨.oslice S.next 0 m.length z,qav S e z m,?_,.inr ⟨S.next,by rw[List.nil_append]; exact qhu ho h0 (by simpa using hfit),by show S.next<S.next+1; omega,by simpa using hm,.inl (by rw[List.nil_append])⟩,(qjd ho _ _),fun r hr=>by cases hr; exact .inr (lR _),nw_log ho _⟩
     simp only;rw[show Nat.beq m.length 0=false from beq_false.2 (by omega),cF]
   . obtain⟨c,hc1,hc2⟩:=h1.row
     have hf1:=h1.fit;refine⟨.oslice S.next 0 (ts++m).length z,nw (S.put r .dead) (.cells e z (ts.length+m.length) false (Ev.addL c m ts.length)),?_,.inr ⟨S.next,?_,by show S.next<S.next+1; omega,by rw[lAq]; omega,.inl rfl⟩,?_,fun x hx=>by cases hx; exact .inr (lR _),nw_log (s:=S.put r .dead) ho _⟩
     . simp only[Nat.beq_refl,cT,Nat.zero_add]
       rw[qmv ho h1,oB];simp only
       rw[show Nat.ble ((ts.length+m.length)*z) (z*ts.length)=false from by
        rw[qlc,Nat.add_mul,Nat.mul_comm z];have:0<m.length*z:=Nat.mul_pos hm h0
        omega,cF]
       unfold qlv;rw[hc1];simp only[Nat.beq_refl,Bool.not_true,Bool.or_self,cF,show Nat.beq 0 0=true from rfl,blt_true.2 hf1,Bool.and_self,cT];rw[qdt,lAq];unfold setO;rw[qbu ho]
     . refine qiz (s:=S.put r .dead) ho h0 (by rw[lAq]) (by rw[lAq]at hfit; exact hfit) fun i t hi=>?_
       rw[Ev.addL_get];have hlt:=(List.getElem?_eq_some_iff.1 hi).1;rw[lAq]at hlt;by_cases hc:ts.length<=i
       . rw[iP ⟨hc,hlt⟩]
         rw[List.getElem?_append_right hc]at hi;exact hi
       . rw[iN (fun h=>hc h.1)]
         rw[List.getElem?_append_left (by omega)]at hi;exact hc2 i t hi
     . exact⟨by show S.next<=S.next+1; omega,(nw_on (s:=S.put r .dead) ho _).trans ho.symm,fun x hx hw=>by
        rw[nw_get,iN (by show x≠S.next; omega),qmk,iN (fun q=>hw (by rw[q]; rfl))]⟩
   . have hld:=RowAt.all ho h1 0 ts.length (by omega)
     rw[Nat.zero_mul,List.drop_zero,List.take_of_length_le (lR _)]at hld;refine⟨.oslice S.next 0 (ts++m).length z,qav S e z (ts++m),?_,.inr ⟨S.next,qhu ho h0 hfit,by show S.next<S.next+1; omega,by rw[lAq]; omega,.inl rfl⟩,(qjd ho _ _),fun r hr=>by cases hr; exact .inr (lR _),nw_log ho _⟩;simp only;rw[show Nat.ble (ts.length+m.length) ts.length=false from by rw[qlc]; omega,cF,show qbp z ts.length (.slice r 0 ts.length ts.length) S=_ from hld,oB];simp only;rw[lAq]
theorem RV.pv (ho:S.on=false) {v:V} {e z:Nat} {ts:List (Tr V)} (h:RV S v e z ts):PV S z v ts:=by
 rcases h with⟨rfl,rfl⟩|⟨r,h1,h2,h3,rfl|rfl⟩
 . exact⟨rfl,rfl⟩
 . have:=RowAt.all ho h1 0 ts.length (by omega)
   rw[Nat.zero_mul,List.drop_zero,List.take_of_length_le (lR _)]at this;exact⟨rfl,this⟩
 . have:=RowAt.all ho h1 0 ts.length (by omega)
   rw[Nat.zero_mul,List.drop_zero,List.take_of_length_le (lR _)]at this;exact⟨rfl,this⟩
theorem RV.one {r e z:Nat} {t:Tr V} (h:RowAt S r e z [t]) (hr:r<S.next):RV S (.slice r 0 1 1) e z [t]:=.inr ⟨r,h,hr,by simp,.inr rfl⟩
theorem rv_nil (e z:Nat):RV S .nilslice e z []:=.inl ⟨rfl,rfl⟩
theorem qfh (ho:S.on=false) (e z:Nat) (zt:Tr V) (t:Tr V) (h0:0<z) (hz:z<1000):∃y T,bsP e z 1 zt [(0,.agg z t)] S=some (y,T)/\RV T y e z [t]/\qai y=some S.next/\Grew (fun _=>False) S T/\T.next=S.next+1:=by
 have hrow:RowAt (nw S (.cells e z 1 false ((Tr.tab 1 1 fun _=>zt).set t 0))) S.next e z [t]:=by
  refine qiz ho h0 rfl (by unfold big; omega) fun i u h=>?_;rw[Tr.get_set];cases i with
  | zero=>simpa using h
  | succ i=>simp at h
 have hg:Grew (fun _=>False) S (nw S (.cells e z 1 false ((Tr.tab 1 1 fun _=>zt).set t 0))):=qjd ho _ _;refine⟨.slice S.next 0 1 1,_,?_,RV.one hrow (by show S.next<S.next+1; omega),rfl,hg,rfl⟩;unfold bsP qhz qhz;simp only[V.size,qac,V.cells,Nat.beq_refl,nF,Bool.and_true,show Nat.blt 0 1=true from rfl,cT,Tr.setC_eq,oB]
theorem rv_byte (ho:S.on=false) (c:UInt8):∃y T,bsP 5 1 1 (Ev.one (.int .u8 0)) [(0,.int .u8 (c.toNat:Int))] S=some (y,T)/\RV T y 5 1 ([c].map qge)/\qai y=some S.next/\Grew (fun _=>False) S T/\T.next=S.next+1:=by
 obtain⟨T,h1,h2,h3,h4⟩:=bsP_byte ho 5 c;exact⟨_,T,h1,RV.one h2 (by omega),rfl,h3,h4⟩
theorem und79:und E0 79=some (.slice 5):=by kernel_rfl
theorem conv_rv (ho:S.on=false) {v:V} {bs:Bs} (h:RV S v 5 1 (bs.map qge)) (hb:bs≠[]):qc5 E0 79 9 v S=some (sv bs,S):=by
 have hp:qbp 1 bs.length v S=some (bs.map qge,S):=by
  have:=(h.pv ho).2
  rwa [lM]at this
 have hl:lenV v=some bs.length:=by
  have:=(h.pv ho).1
  rwa [lM]at this
 rcases h with⟨h,_⟩|⟨r,h1,h2,h3,rfl|rfl⟩
 . exact absurd (List.map_eq_nil_iff.1 h) hb
 . unfold qc5
   rw[und79,und9];simp only[oB,qct,Bool.or_self,cF,und5,hl,hp,qi7];rfl
 . have:=convert_row (cap:=bs.length) ho und79 und5 und9 h1 (off:=0) (len:=bs.length) (by omega)
   rw[lM];rw[List.drop_zero,List.take_of_length_le (lR _)]at this;exact this
def qdn (k:Nat) (t o:Bs) (q:Bool) (v:V):Tr V:=Tr.ofListFrom .nil [.int .i64 (k:Int),sv t,sv o,.bool q,v,.nilptr] 0
mutual
def PtAt (S:St) (Q:Nat->Prop):Part->Tr V->Prop
 | .mk k t o q w,c=>∃v rows,c=qdn k t o q v/\RV S v 49 6 rows/\PrAt S Q w rows/\∀r,qai v=some r->Q r
def PrAt (S:St) (Q:Nat->Prop):List Part->List (Tr V)->Prop
 | [],rows=>rows=[]
 | p::l,rows=>∃c rest,rows=c::rest/\PtAt S Q p c/\PrAt S Q l rest
end
mutual
theorem PtAt.mono {Q Q':Nat->Prop} (hQ:∀x,Q x->Q' x):∀{p:Part} {c:Tr V},PtAt S Q p c->PtAt S Q' p c
 | .mk k t o q w,c,h=>by
  simp only[PtAt]at h ⊢;obtain⟨v,rows,h1,h2,h3,h4⟩:=h;exact⟨v,rows,h1,h2,PrAt.mono hQ h3,fun r hr=>hQ r (h4 r hr)⟩
theorem PrAt.mono {Q Q':Nat->Prop} (hQ:∀x,Q x->Q' x):∀{l:List Part} {rows:List (Tr V)},PrAt S Q l rows->PrAt S Q' l rows
 | [],rows,h=>by simp only[PrAt]at h ⊢; exact h
 | p::l,rows,h=>by
  simp only[PrAt]at h ⊢;obtain⟨c,rest,h1,h2,h3⟩:=h;exact⟨c,rest,h1,PtAt.mono hQ h2,PrAt.mono hQ h3⟩
end
mutual
theorem PtAt.grew {W Q:Nat->Prop} (g:Grew W S U) (hW:∀x,Q x->¬W x):∀{p:Part} {c:Tr V},PtAt S Q p c->PtAt U Q p c
 | .mk k t o q w,c,h=>by
  simp only[PtAt]at h ⊢;obtain⟨v,rows,h1,h2,h3,h4⟩:=h;exact⟨v,rows,h1,h2.grew (fun r hr=>hW r (h4 r hr)) g,PrAt.grew g hW h3,h4⟩
theorem PrAt.grew {W Q:Nat->Prop} (g:Grew W S U) (hW:∀x,Q x->¬W x):∀{l:List Part} {rows:List (Tr V)},PrAt S Q l rows->PrAt U Q l rows
 | [],rows,h=>by simp only[PrAt]at h ⊢; exact h
 | p::l,rows,h=>by
  simp only[PrAt]at h ⊢;obtain⟨c,rest,h1,h2,h3⟩:=h;exact⟨c,rest,h1,PtAt.grew g hW h2,PrAt.grew g hW h3⟩
end
theorem PrAt.len {Q:Nat->Prop}:∀{l:List Part} {rows:List (Tr V)},PrAt S Q l rows->rows.length=l.length
 | [],rows,h=>by simp only[PrAt]at h; rw[h]; rfl
 | p::l,rows,h=>by
  simp only[PrAt]at h;obtain⟨c,rest,h1,h2,h3⟩:=h;rw[h1,List.length_cons,List.length_cons,PrAt.len h3]
theorem PrAt.append {Q:Nat->Prop}:∀{l m:List Part} {rows rows':List (Tr V)},PrAt S Q l rows->PrAt S Q m rows'->PrAt S Q (l++m) (rows++rows')
 | [],m,rows,rows',h,k=>by simp only[PrAt]at h; rw[h]; exact k
 | p::l,m,rows,rows',h,k=>by
  simp only[PrAt]at h;obtain⟨c,rest,rfl,h2,h3⟩:=h;rw[List.cons_append,List.cons_append];simp only[PrAt];exact⟨c,rest++rows',rfl,h2,PrAt.append h3 k⟩
theorem prAt_nil {Q:Nat->Prop}:PrAt S Q [] []:=by simp only[PrAt]
theorem prAt_one {Q:Nat->Prop} {p:Part} {c:Tr V} (h:PtAt S Q p c):PrAt S Q [p] [c]:=by
 simp only[PrAt];exact⟨c,[],rfl,h,rfl⟩
theorem qdm {Q:Nat->Prop} (k:Nat) (t o:Bs) (q:Bool):PtAt S Q (.mk k t o q []) (qdn k t o q .nilslice):=by
 simp only[PtAt,PrAt];exact⟨.nilslice,[],rfl,rv_nil _ _,rfl,fun r hr=>by cases hr⟩
end
end Go.Proofs.YtafbipadnnmccaaDoor.W
namespace Go.Proofs.YtafbipadnnmccaaDoor.W
open Go.Proofs.YtafbipadnnmccaaDoor.Ev
theorem qax {s:Bs} {i:Nat} {t:Bs} (h:atD s i t=true) (ht:t≠[]):i+t.length<=s.length:=by
 unfold atD at h;rw[beq_iff_eq]at h;have:=congrArg List.length h;rw[List.length_take,List.length_drop]at this;have:0<t.length:=List.length_pos_iff.2 ht;omega
theorem clo_le:∀n,(∀s i d j,qhf n s i d=some j->i<j/\j<=s.length)/\(∀s i j,qkj n s i=some j->i<j/\j<=s.length)
 | 0=>⟨fun s i d j h=>by(unfold qhf at h; cases h),fun s i j h=>by(unfold qkj at h; cases h)⟩
 | n+1=>by
  obtain⟨hC,hQ⟩:=clo_le n;refine⟨fun s i d j h=>?_,fun s i j h=>?_⟩
  . unfold qhf at h
    split at h
    . split at h
      . have:=hC _ _ _ _ h; omega
      . split at h
        . split at h
          . cases h
          . rename_i k hk
            have:=qdo hk;have:=hC _ _ _ _ h; omega
        . split at h
          . split at h
            . cases h
            . rename_i k hk
              have:=hQ _ _ _ hk;have:=hC _ _ _ _ h; omega
          . split at h
            . have:=hC _ _ _ _ h; omega
            . split at h
              . split at h
                . cases h; omega
                . have:=hC _ _ _ _ h; omega
              . have:=hC _ _ _ _ h; omega
    . cases h
  . unfold qkj at h
    split at h
    . split at h
      . have:=hQ _ _ _ h; omega
      . split at h
        . cases h; omega
        . split at h
          . split at h
            . cases h
            . rename_i k hk
              have:=hC _ _ _ _ hk;have:=hQ _ _ _ h; omega
          . have:=hQ _ _ _ h; omega
    . cases h
theorem flu_len (w:Nat) (out:List Part) (text:Bs):(qkc w out text).length<=out.length+text.length:=by
 unfold qkc;split
 . omega
 . rename_i h
   have:0<text.length:=List.length_pos_iff.2 h;rw[lAq,List.length_singleton]; omega
theorem par_le (s:Bs) (i:Nat) (m:Bs) (h:qbr (s.drop i) m≠0):i+qbr (s.drop i) m<=s.length:=by
 have:=qmf (s.drop i) m;rw[List.length_drop]at this;omega
theorem find_at {s:Bs} {k:Nat} {o:Bs} (h:(opsT.find? fun o=>atD s k o)=some o):atD s k o=true/\k+o.length<=s.length/\0<o.length:=by
 have h1:=List.find?_some h;have h2:=List.mem_of_find?_eq_some h
 have h3:o≠[]:=by
  rintro rfl;revert h2
  decide
 exact⟨h1,qax h1 h3,List.length_pos_iff.2 h3⟩
theorem qee:∀n,(∀s w deep i out text l j,qal n s w deep i out text=.ok (l,j)->i<=s.length->i<=j/\j<=s.length/\l.length+i<=out.length+text.length+j)/\(∀s w deep i p j,qj5 n s w deep i=.ok (some (p,j))->i<j/\j<=s.length)
 | 0=>⟨fun s w deep i out text l j h=>by(unfold qal at h; cases h),fun s w deep i p j h=>by(unfold qj5 at h; cases h)⟩
 | n+1=>by
  obtain⟨hP,hD⟩:=qee n;refine⟨fun s w deep i out text l j h hi=>?_,fun s w deep i p j h=>?_⟩
  . unfold qal at h
    split at h
    . rename_i hlt
      have hf:=flu_len w out text;split at h
      . rename_i ha
        have:=qax ha (by simp);have:=hP _ _ _ _ _ _ _ _ h (by simpa using this);omega
      . split at h
        . split at h
          . cases h
          . split at h
            . have:=hP _ _ _ _ _ _ _ _ h (by omega)
              have e:(text++(if(List.contains [36,96,92] (byt s (i+1))||byt s (i+1)==34&&w != 2)=true then []else [92])++[byt s (i+1)]).length<=text.length+2:=by
               simp only[lAq,List.length_singleton];split<;>simp
              omega
            . have:=hP _ _ _ _ _ _ _ _ h (by omega)
              simp only[lAq,List.length_singleton,List.length_nil]at this;omega
        . split at h
          . split at h
            . cases h
            . have:=hP _ _ _ _ _ _ _ _ h (by omega)
              simp only[lAq,List.length_singleton]at this;omega
            . rename_i p k hk
              have h1:=hD _ _ _ _ _ _ hk;have:=hP _ _ _ _ _ _ _ _ h (by omega);simp only[lAq,List.length_singleton,List.length_nil]at this;omega
          . split at h
            . cases h
            . split at h
              . split at h
                . cases h
                . rename_i k hk
                  have h1:=qdo hk;have:=hP _ _ _ _ _ _ _ _ h (by omega);simp only[lAq,List.length_singleton,List.length_nil]at this;omega
              . split at h
                . split at h
                  . cases h
                  . rename_i l' k hk
                    have h1:=hP _ _ _ _ _ _ _ _ hk (by omega);split at h
                    . rename_i ha
                      have h2:=qax ha (by simp);have:=hP _ _ _ _ _ _ _ _ h (by simpa using h2);have e:(if l'.isEmpty=true then [Part.mk 1 [] [] true []]else l').length<=l'.length+1:=by split<;>simp
                      simp only[lAq,List.length_nil]at this h1;omega
                    . cases h
                . have:=hP _ _ _ _ _ _ _ _ h (by omega)
                  simp only[lAq,List.length_singleton]at this;omega
    . have hf:=flu_len w out text
      cases h;omega
  . unfold qj5 at h
    split at h
    . cases h
    . split at h
      . split at h
        . cases h
        . rename_i k hk
          have:=(clo_le _).1 _ _ _ _ hk;cases h;omega
      . split at h
        . split at h
          . cases h
          . split at h
            . rename_i hc
              simp only[bA]at hc;have:=qax hc.2 (by simp);simp only[List.length_singleton]at this;cases h;omega
            . dsimp only at h
              split at h
              . cases h
              . split at h
                . rename_i hc
                  have:=qax hc (by simp);simp only[List.length_singleton]at this;cases h;omega
                . split at h
                  . cases h
                  . rename_i o ho
                    have h1:=find_at ho;split at h
                    . cases h
                    . rename_i l k hk
                      have h2:=hP _ _ _ _ _ _ _ _ hk (by omega);split at h
                      . rename_i ha
                        have h3:=qax ha (by simp);simp only[List.length_singleton]at h3;cases h;omega
                      . cases h
        . dsimp only at h
          split at h
          . cases h
          . rename_i hm
            have:=par_le s (i+1) _ hm;cases h;omega
end Go.Proofs.YtafbipadnnmccaaDoor.W
end
