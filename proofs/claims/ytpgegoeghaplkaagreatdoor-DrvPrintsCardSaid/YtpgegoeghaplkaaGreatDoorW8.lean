/-
  WHAT THE FUNCTIONS COME TO: each is read by the evaluator,printed,and told as a function of data,part 8 of 15 (no condition).
-/
import Derived.Test.YtpgegoeghaplkaaGreatDoorW7
noncomputable section
namespace Go.Proofs.YtpgegoeghaplkaaGreatDoor.W
open Go.Proofs.YtpgegoeghaplkaaGreatDoor.Ev Go.RowKit
def qhu (n:Nat):UInt8:=ltrs.getD (n%32) 0
def hin (h:Nat):Nat->Nat->Bs
 | 0,_=>[]
 | d+1,k=>qhu (h/2^(k-5)%32)::hin h d (k-5)
def hout (sum:Bs):Nat->Nat->Nat->Nat->Bs
 | 0,_,_,_=>[]
 | d+1,i,k,h=>hin (h*256+(sum.getD i 0).toNat) ((k+8)/5) (k+8)++hout sum d (i+1) ((k+8)%5) ((h*256+(sum.getD i 0).toNat)%2^((k+8)%5))
def ql6 (s:Bs):Bs:=hout (sumB s) 20 0 0 0
theorem hin_len (h:Nat):∀d k,(hin h d k).length=d
 | 0,_=>rfl
 | d+1,k=>by show(hin h d (k-5)).length+1=_; rw[hin_len h d]
theorem hout_len (sum:Bs):∀d i k h,k<5->5*(hout sum d i k h).length+(k+8*d)%5=k+8*d
 | 0,_,k,_,hk=>by show 5*0+_=_; omega
 | d+1,i,k,h,hk=>by
  unfold hout;have:=hout_len sum d (i+1) ((k+8)%5) ((h*256+(sum.getD i 0).toNat)%2^((k+8)%5)) (by omega);rw[lAq,hin_len];omega
theorem qj4 (s:Bs):(ql6 s).length=32:=by
 have:=hout_len (sumB s) 20 0 0 0 (by omega);show(hout (sumB s) 20 0 0 0).length=32;omega
theorem ltrC_in (n:Nat):ltrs.contains (qhu n)=true:=by
 unfold qhu;rw[List.getD_eq_getElem?_getD,List.getElem?_eq_getElem (by rw[qej]; exact Nat.mod_lt _ (by decide)),Option.getD_some,List.contains_iff_mem];exact List.getElem_mem _
theorem hin_in (h:Nat):∀d k,∀c∈hin h d k,ltrs.contains c=true
 | 0,_,_,hc=>by cases hc
 | d+1,k,c,hc=>by
  rcases List.mem_cons.1 hc with rfl|hc
  . exact ltrC_in _
  . exact hin_in h d _ c hc
theorem hout_in (sum:Bs):∀d i k h,∀c∈hout sum d i k h,ltrs.contains c=true
 | 0,_,_,_,_,hc=>by cases hc
 | d+1,i,k,h,c,hc=>by
  unfold hout at hc;rcases List.mem_append.1 hc with hc|hc
  . exact hin_in _ _ _ c hc
  . exact hout_in sum d _ _ _ c hc
theorem hashB_is (s:Bs):isH (ql6 s)=true:=by
 unfold isH;rw[dT (qj4 s),Bool.true_and,List.all_eq_true];exact hout_in _ _ _ _ _
theorem qio {a:Nat} (h:a<18446744073709551616):qcc .u64 (a:Int)=a:=by
 show a%qbo .u64=_;rw[show qbo .u64=18446744073709551616 from rfl]; omega
theorem u64_of {n:Nat} (h:n<18446744073709551616):qdu .u64 n=(n:Int):=by
 unfold qdu;rw[show Nat.blt n (qdb .u64)=true from blt_true.2 h]; rfl
theorem shlU {a n:Nat} (hn:n<=64) (h:a*2^n<18446744073709551616) (c d:Bool) (k:IntKind):qa4 E0 .shl 68 c d (.int .u64 (a:Int)) (.int k (n:Int))=some (.int .u64 ((a*2^n:Nat):Int)):=by
 show some (V.int .u64 (qgh .u64 ((a:Int)*.ofNat (2^min n 64))))=_;rw[Nat.min_eq_left hn,qbf,show(a:Int)*Int.ofNat (2^n)=((a*2^n:Nat):Int)from(Int.natCast_mul ..).symm,wrap_u64 (by omega) (by omega)]
theorem shrU8 (a:Nat) {n:Nat} (hn:n<=64) (c d:Bool) (k:IntKind):qa4 E0 .shr 68 c d (.int .u64 (a:Int)) (.int k (n:Int))=some (.int .u64 ((a/2^n:Nat):Int)):=by
 show some (V.int .u64 ((a:Int).fdiv (.ofNat (2^min n 64))))=_;rw[Nat.min_eq_left hn,show(a:Int).fdiv (Int.ofNat (2^n))=(a:Int)/((2^n:Nat):Int)from Int.fdiv_eq_ediv_of_nonneg _ (Int.natCast_nonneg _)];rfl
theorem andU {a b:Nat} (ha:a<1000000) (hb:b<1000000) (c d:Bool):qa4 E0 .and 68 c d (.int .u64 (a:Int)) (.int .u64 (b:Int))=some (.int .u64 ((a &&& b:Nat):Int)):=by
 show some (V.int .u64 (qdu .u64 (Nat.land (qcc .u64 (a:Int)) (qcc .u64 (b:Int)))))=_;have hle:a &&& b<=a:=Nat.and_le_left;rw[qio (by omega),qio (by omega),show Nat.land a b=a &&& b from rfl,u64_of (by omega)]
theorem or8 {a:Nat} (ha:a<1000000) (b:UInt8) (c d:Bool):qa4 E0 .or 68 c d (.int .u64 ((a*2^8:Nat):Int)) (.int .u64 (b.toNat:Int))=some (.int .u64 ((a*256+b.toNat:Nat):Int)):=by
 have hb:=b.toNat_lt;show some (V.int .u64 (qdu .u64 (Nat.lor (qcc .u64 ((a*2^8:Nat):Int)) (qcc .u64 (b.toNat:Int)))))=_
 have e:Nat.lor (a*2^8) b.toNat=a*256+b.toNat:=by
  have:=Nat.shiftLeft_add_eq_or_of_lt (b:=b.toNat) (i:=8) hb a;rw[Nat.shiftLeft_eq]at this;exact this.symm.trans (by omega)
 rw[qio (by omega),qio (by omega),e,u64_of (by omega)]
theorem and31' (a:Nat) (ha:a<1000000):qa4 E0 .and 68 false true (.int .u64 (a:Int)) (.int .u64 31)=some (.int .u64 ((a%32:Nat):Int)):=by
 rw[show V.int .u64 31=.int .u64 ((31:Nat):Int)from rfl,andU ha (by omega),show(31:Nat)=2^5-1 from rfl,Nat.and_two_pow_sub_one_eq_mod]
theorem maskU (a k:Nat) (ha:a<1000000) (hk:k<16):qa4 E0 .and 68 false false (.int .u64 (a:Int)) (.int .u64 ((2^k-1:Nat):Int))=some (.int .u64 ((a%2^k:Nat):Int)):=by
 have:2^k<=2^16:=Nat.pow_le_pow_right (by decide) (by omega);rw[andU ha (by omega),Nat.and_two_pow_sub_one_eq_mod]
theorem sub1U {a:Nat} (h1:1<=a) (h:a<1000000):qa4 E0 .sub 68 false true (.int .u64 (a:Int)) (.int .u64 1)=some (.int .u64 ((a-1:Nat):Int)):=by
 rw[binV_ii,intsV_sub,show((a:Int)-1)=((a-1:Nat):Int) by omega,wrap_u64 (by omega) (by omega)]
theorem geq5 (n:Nat):qa4 E0 .geq 3 false true (.int .i64 (n:Int)) (.int .i64 5)=some (.bool (decide (5<=n))):=by
 rw[binV_ii,intsV_geq]
 congr 2
 simp;omega
theorem cvU8 (c:UInt8) (S:St):cvI .u64 (.int .u8 (c.toNat:Int)) S=some (.int .u64 (c.toNat:Int),S):=by
 have:=c.toNat_lt;rw[cvI_int,wrap_u64 (by omega) (by omega)]
theorem ixL {n:Nat} (hn:n<32):ixS (sv [48,49,50,51,52,53,54,55,56,57,97,98,99,100,102,103,104,105,106,107,108,109,110,112,113,114,115,118,119,120,121,122]) (.int .u64 (n:Int))=some (.int .u8 ((qhu n).toNat:Int)):=by
 have h:=qci ltrs .u64 n (by rw[qej]; omega)
 have e:qhu n=ltrs[n]'(by rw[qej]; omega):=by
  unfold qhu;rw[Nat.mod_eq_of_lt hn,List.getD_eq_getElem?_getD,List.getElem?_eq_getElem (by rw[qej]; omega)]; rfl
 rw[e];exact h
section
variable {S T U:St} {bs:Bs} {N b:Nat}
theorem L39h_spec {m Nn:Nat} {v3 v12 v13:V} (h:Nat) (hh:h<1000000) (nk:Ac->St->Rs) (ek:Nat->Ac->St->Rs) :
 ∀(d k q:Nat) (bs:Bs) (S:St),k/5=d->d<q->k<20->Bd S b bs N->bs.length+d<900->
 ∃U,L14_39 (ev E0 KH (m+2)) Nn nk ek q v3 (.ptr b 0) (.int .u64 (h:Int)) (.int .i64 (k:Int)) v12 v13 S=ek 2 (fr 42 [(3,v3),(4,.ptr b 0),(5,.int .u64 (h:Int)),(6,.int .i64 ((k%5:Nat):Int)),(12,v12),(13,v13)]) U/\Bd U b (bs++hin h d k) N/\Grew (fun x=>x=b\/N<=x) S U
 | _,_,0,_,_,_,hq,_,_,_=>by omega
 | 0,k,q+1,bs,S,hd,hq,hk,hB,hl=>by
  refine⟨S,?_,by unfold hin; rw[List.append_nil]; exact hB,Grew.refl _ _⟩;rw[L14_39_eq,geq5,dF (by omega),oB,ifK_bool,cF,show k%5=k by omega]
 | d+1,k,q+1,bs,S,hd,hq,hk,hB,hl=>by
  obtain⟨U1,a1,a2,a3⟩:=byte_run (K:=KH) rfl rfl m hB (qhu (h/2^(k-5)%32)) (by omega);obtain⟨U,t1,t2,t6⟩:=L39h_spec (m:=m) (Nn:=Nn) (v3:=v3) (v12:=v12) (v13:=v13) h hh nk ek d (k-5) q _ U1 (by omega) (by omega) (by omega) a2 (by rw[lAq,List.length_singleton]; omega);rw[List.append_assoc,show [qhu (h/2^(k-5)%32)]++hin h d (k-5)=hin h (d+1) k from rfl]at t2;refine⟨U,?_,t2,a3.trans t6⟩;have hdl:h/2^(k-5)<=h:=Nat.div_le_self _ _;rw[L14_39_eq,geq5,dT (by omega),oB,ifK_bool,cT,show V.int .i64 5=.int .i64 ((5:Nat):Int)from rfl,subC 5 (by omega) (by omega),oB,shrU8 _ (by omega),oB,and31' _ (by omega),oB,ixL (Nat.mod_lt _ (by decide)),oB,a1,callP_ret,t1,show(k-5)%5=k%5 by omega]
theorem L14h_spec {m Nn:Nat} (hNn:1000<Nn) (sum:Bs) (hs:sum.length=32) (nk:Ac->St->Rs) (ek:Nat->Ac->St->Rs) :
 ∀(d i q k h:Nat) (bs:Bs) (S:St),i+d=20->d<q->k<5->h<32->Bd S b bs N->bs.length<=2*i->
 ∃U,L14_14 (ev E0 KH (m+2)) Nn nk ek q (sv sum) (.ptr b 0) (.int .u64 (h:Int)) (.int .i64 (k:Int)) (.int .i64 20) (.int .i64 (i:Int)) S=ek 0 (fr 42 [(4,.ptr b 0)]) U/\Bd U b (bs++hout sum d i k h) N/\Grew (fun x=>x=b\/N<=x) S U
 | _,_,0,_,_,_,_,_,hq,_,_,_,_=>by omega
 | 0,i,q+1,k,h,bs,S,hi,hq,hk,hh,hB,hl=>by
  refine⟨S,?_,by unfold hout; rw[List.append_nil]; exact hB,Grew.refl _ _⟩;rw[L14_14_eq,show V.int .i64 20=.int .i64 ((20:Nat):Int)from rfl,qds,dF (by omega),oB,ifK_bool,cF]
 | d+1,i,q+1,k,h,bs,S,hi,hq,hk,hh,hB,hl=>by
  have hil:i<sum.length:=by omega
  have hc:sum.getD i 0=sum[i]:=by rw[List.getD_eq_getElem?_getD,List.getElem?_eq_getElem hil]; rfl
  have hcl:=sum[i].toNat_lt;have hx:h*256+sum[i].toNat<1000000:=by omega
  obtain⟨U1,a1,a2,a6⟩:=L39h_spec (m:=m) (Nn:=Nn) (v3:=sv sum) (v12:=.int .i64 20) (v13:=.int .i64 (i:Int)) (h*256+sum[i].toNat) hx (R14_29 (ev E0 KH (m+2)) Nn (qgk (ev E0 KH (m+2)) Nn (qgj (ev E0 KH (m+2)) Nn nk ek q) ek) (exB 1 (qgk (ev E0 KH (m+2)) Nn (qgj (ev E0 KH (m+2)) Nn nk ek q) ek) ek)) (exB 2 (R14_29 (ev E0 KH (m+2)) Nn (qgk (ev E0 KH (m+2)) Nn (qgj (ev E0 KH (m+2)) Nn nk ek q) ek) (exB 1 (qgk (ev E0 KH (m+2)) Nn (qgj (ev E0 KH (m+2)) Nn nk ek q) ek) ek)) (exB 1 (qgk (ev E0 KH (m+2)) Nn (qgj (ev E0 KH (m+2)) Nn nk ek q) ek) ek)) ((k+8)/5) (k+8) Nn bs S rfl (by omega) (by omega) hB (by omega);have hp:2^((k+8)%5)<=2^4:=Nat.pow_le_pow_right (by decide) (by omega);have hpp:0<2^((k+8)%5):=Nat.pow_pos (by decide);have hm:(h*256+sum[i].toNat)%2^((k+8)%5)<2^((k+8)%5):=Nat.mod_lt _ hpp;obtain⟨U,t1,t2,t5⟩:=L14h_spec (m:=m) hNn sum hs nk ek d (i+1) q ((k+8)%5) ((h*256+sum[i].toNat)%2^((k+8)%5)) _ U1 (by omega) (by omega) (by omega) (by omega) a2 (by rw[lAq,hin_len]; omega);rw[List.append_assoc,show hin (h*256+sum[i].toNat) ((k+8)/5) (k+8)++hout sum d (i+1) ((k+8)%5) ((h*256+sum[i].toNat)%2^((k+8)%5))=hout sum (d+1) i k h from by rw[<- hc]; rfl]at t2;refine⟨U,?_,t2,a6.trans t5⟩;have hs8:h*2^8<18446744073709551616:=Nat.lt_of_lt_of_le (Nat.mul_lt_mul_of_pos_right hh (by decide)) (by decide)
  have hs1:1*2^((k+8)%5)<18446744073709551616:=by rw[Nat.one_mul]; exact Nat.lt_of_le_of_lt hp (by decide)
  rw[L14_14_eq,show V.int .i64 20=.int .i64 ((20:Nat):Int)from rfl,qds,dT (by omega),oB,ifK_bool,cT,show V.int .u64 8=.int .u64 ((8:Nat):Int)from rfl,shlU (by omega) hs8,oB,qci sum .i64 i hil,oB,cvU8,oB];dsimp only;rw[or8 (by omega),oB,show V.int .i64 8=.int .i64 ((8:Nat):Int)from rfl,addC 8 (by omega) (by omega),oB];refine a1.trans ?_;rw[exB_same,R14_29_eq,show V.int .u64 1=.int .u64 ((1:Nat):Int)from rfl,shlU (by omega) hs1,oB,Nat.one_mul,show V.int .u64 ((1:Nat):Int)=V.int .u64 1 from rfl,sub1U (by omega) (by omega),oB,maskU _ _ hx (by omega),oB,R14_16_eq,qc1 (by omega),oB,N14_14_eq];exact t1
theorem min20' {n:Nat} (h:20<=n) (S:St):qj1 minV (.int .i64 (n:Int)) [(.int .i64 20)] S=some (.int .i64 20,S):=by
 rw[foldK_min]
 congr 3
 omega
theorem hash_run (m:Nat) (ho:S.on=false) (s:Bs) (hs:s.length<80000):∃U,qaq E0 (ev E0 KH (m+8)) qa1 Tryz.f14 B14 [sv s] S=some (.ret (sv (ql6 s)),U)/\Grew (fun _=>False) S U:=by
 obtain⟨S1,a1,a3⟩:=sum_run m ho s hs;have on1:=a3.on.trans ho;have hB:=bd_new on1;have b2:Grew (fun _=>False) S1 (nwP 45 2 (Tr.ofListFrom .nil [.nilptr,.nilslice] 0) S1).2:=(qc7 on1 45 2 _).2.1;have n1:(nwP 45 2 (Tr.ofListFrom .nil [.nilptr,.nilslice] 0) S1).2.next=S1.next+1:=(qc7 on1 45 2 _).2.2
 have eb:nwP 45 2 (Tr.ofListFrom .nil [.nilptr,.nilslice] 0) S1=(.ptr S1.next 0,(nwP 45 2 (Tr.ofListFrom .nil [.nilptr,.nilslice] 0) S1).2):=rfl;generalize (nwP 45 2 (Tr.ofListFrom .nil [.nilptr,.nilslice] 0) S1).2=S2 at hB b2 n1 eb;obtain⟨S3,c1,c2,c5⟩:=L14h_spec (m:=m+6) (Nn:=qa1) (by unfold qa1; omega) (sumB s) (qjt s) (R14_7 (ev E0 KH (m+8)) qa1 (qat E0 (ev E0 KH (m+8)) Tryz.f14) qad) (exB 0 (R14_7 (ev E0 KH (m+8)) qa1 (qat E0 (ev E0 KH (m+8)) Tryz.f14) qad) qad) 20 0 qa1 0 0 [] S2 rfl (by unfold qa1; omega) (by omega) (by omega) hB (lR _);rw[List.nil_append,show hout (sumB s) 20 0 0 0=ql6 s from rfl]at c2;obtain⟨S4,d1,d2⟩:=qjv (K:=KH) rfl (m+7) c2 (fun e=>by have:=qj4 s; rw[e]at this; cases this);have n3:=c5.next
 have n0:=a3.next
 refine⟨S4,?_,?_⟩
 . show F14 (ev E0 KH (m+8)) qa1 (sv s) S=_
   rw[F14_eq,a1,callP_ret,eb,oB];dsimp only;rw[qa5,oB];dsimp only;rw[min20' (by rw[qjt]; omega),oB];dsimp only;rw[show V.int .i64 0=.int .i64 ((0:Nat):Int)from rfl,show V.int .u64 0=.int .u64 ((0:Nat):Int)from rfl];refine c1.trans ?_;rw[exB_same,R14_7_eq];rw[show(ev E0 KH (m+8)).f 20 [.ptr S1.next 0] S3=_ from d1,callP_ret]
 . exact Grew.then (Grew.then (Grew.then a3 b2 fun _ _ h=>h) c5 fun x hx e=>by rcases e with e|e<;>omega) d2 fun x hx e=>by omega
end
structure HashIn where
 s:Bs
 hs:s.length<80000
def kfHash:KF:=qcw (fun p:HashIn=>[sv p.s]) (fun p=>En.ret (sv (ql6 p.s)))
theorem kfHash_run (s:Bs) (hs:s.length<80000) (S:St):kfHash.run [sv s] S=some (.ret (sv (ql6 s)),S):=
 qe3 (enc:=fun p:HashIn=>[sv p.s]) (out:=fun p=>En.ret (sv (ql6 p.s))) (fun p q h=>by
  simp only[List.cons.injEq,and_true]at h
  rw[qnv h]) ⟨s,hs⟩ S
theorem hash_well:KnWell Tryz.prog E0 14 kfHash:=
 qim (fn:=Tryz.f14) (c:=C14) (d:=B14) qlx okH (by kernel_rfl) (by kernel_rfl) (qa3 C14 _ (by kernel_rfl)) fun p S ho=>by
  obtain⟨U,h1,h2⟩:=hash_run 0 ho p.s p.hs;exact⟨8,_,U,h1,h2,Fz.same (.str ..)⟩
section
variable {S T U:St}
theorem split_run (ho:S.on=false) (m:Nat) (s:Bs) (hs:s.length<4611686018427387904):∃U,(ev E0 K2 (m+6)).f 12 [sv s] S=some (.ret (.tuple [sv (if qb1 s then s.take 32 else []),sv (if qb1 s then s.drop 33 else []),.int .i64 (if qb1 s then 0 else 4)]),U)/\Grew (fun _=>False) S U:=by
 have hle:qa4 E0 .leq 3 false true (.int .i64 (s.length:Int)) (.int .i64 32)=some (.bool (decide (s.length<=32))):=by
  rw[binV_ii,intsV_leq]
  congr 2
  simp;omega
 by_cases h32:s.length<=32
 . refine⟨S,rd50 ?_,Grew.refl _ _⟩
   show F12 (ev E0 K2 (m+5)) qa1 (sv s) S=_;rw[F12_eq,qa5,oB];dsimp only;rw[hle,dT h32,oB];have:qb1 s=false:=by unfold qb1; rw[dF (by omega)]; rfl
   rw[this];rfl
 . have h33:32<s.length:=by omega
   suffices hmain:∃U,F12 (ev E0 K2 (m+5)) qa1 (sv s) S=some (.ret (.tuple [sv (if qb1 s then s.take 32 else []),sv (if qb1 s then s.drop 33 else []),.int .i64 (if qb1 s then 0 else 4)]),U)/\Grew (fun _=>False) S U by
    obtain⟨U,h1,h2⟩:=hmain;exact⟨U,rd50 h1,h2⟩
   rw[F12_eq,qa5,oB];dsimp only;rw[hle,dF h32,oB,qag,oB,nF,cT,oB,oB,cT,show V.int .i64 32=.int .i64 ((32:Nat):Int)from rfl,qci s .i64 32 h33,oB,oB,cT,show V.int .u8 45=.int .u8 ((45:Nat):Int)from rfl,u8neq 45 (by decide),oB,pickV_bool,cF,oB,ifK_bool];by_cases h45:s[32]=45
   . rw[h45,show(!((45:UInt8)==UInt8.ofNat 45))=false from rfl,cF,qda und9 s (qep .i64 (show 32<=s.length by omega)) (by omega),oB]
     dsimp only;rw[show V.int .i64 33=.int .i64 ((33:Nat):Int)from rfl,qda und9 s (qfi .i64 (show 33<=s.length by omega)) (lR _),oB];dsimp only;rw[List.drop_zero,Nat.sub_zero,show List.take (s.length-33) (s.drop 33)=s.drop 33 from List.take_of_length_le (by rw[List.length_drop]; exact lR _),qb3 (by rfl),qih,qih,qjq ho];obtain⟨U1,a1,a2⟩:=f65_run (m+3) S ho (s.take 32) (by rw[List.length_take]; omega);rw[a1,callP_ret,unV_not,oB,qag,oB,Bool.not_not]
     have hp:qb1 s=(isH (s.take 32)&&qf0 (s.drop 33)):=by
      unfold qb1;rw[dT h33,List.getElem?_eq_getElem h33,h45];rfl
     rw[hp];cases hi:isH (s.take 32)with
     | false=>exact⟨U1,rfl,a2⟩
     | true=>
      obtain⟨U2,b1,b2⟩:=f22_run (a2.on.trans ho) m (s.drop 33) (by rw[List.length_drop]; omega);rw[cT,oB,oB,cT,b1,callP_ret,oB,cT,qk8,oB,Bool.not_true,pickV_bool,cF,oB,ifK_bool,Bool.true_and];cases qf0 (s.drop 33)with
      | false=>exact⟨U2,rfl,a2.trans b2⟩
      | true=>exact⟨U2,rfl,a2.trans b2⟩
   . have h45':(s[32]==UInt8.ofNat 45)=false:=beq_false_of_ne h45
     have hp:qb1 s=false:=by
      unfold qb1;rw[List.getElem?_eq_getElem h33];have:(some s[32]==some (45:UInt8))=false:=by simpa using h45
      rw[this,Bool.and_false]; rfl
     rw[h45',hp];exact⟨S,rfl,Grew.refl _ _⟩
def npE (h n:Bs):Int:=if isH h then chkN n else 2
def npB (h n:Bs):Bs:=if isH h&&qf0 n then h++[45]++n else []
theorem npath_run (ho:S.on=false) (m:Nat) (h n:Bs) (hh:h.length<1000000) (hn:n.length<1000000):∃U,qaq E0 (ev E0 K2 (m+5)) qa1 Tryz.f23 B23 [sv h,sv n] S=some (.ret (.tuple [sv (npB h n),.int .i64 (npE h n)]),U)/\Grew (fun _=>False) S U:=by
 suffices hmain:∃U,F23 (ev E0 K2 (m+5)) qa1 (sv h) (sv n) S=some (.ret (.tuple [sv (npB h n),.int .i64 (npE h n)]),U)/\Grew (fun _=>False) S U from hmain
 obtain⟨U1,a1,a2⟩:=f65_run (m+3) S ho h (by omega);rw[F23_eq,a1,callP_ret,unV_not,oB,ifK_bool];unfold npB npE;cases hi:isH h with
 | false=>exact⟨U1,rfl,a2⟩
 | true=>
  obtain⟨U2,b1,b2⟩:=f22_run (a2.on.trans ho) m n (by omega);rw[Bool.not_true,cF,b1,callP_ret,qk8,oB,ifK_bool,Bool.true_and,iP rfl];cases hc:qf0 n with
  | false=>exact⟨U2,rfl,a2.trans b2⟩
  | true=>
   have h0:chkN n=0:=of_decide_eq_true hc;refine⟨U2,?_,a2.trans b2⟩;rw[Bool.not_true,cF,qc6 _ _ (by simp; omega),oB,qc6 _ _ (by rw[lAq]; simp; omega),oB,iP rfl,h0]
end
structure OneIn where
 s:Bs
 hs:s.length<1000000
structure TwoIn where
 a:Bs
 b:Bs
 ha:a.length<1000000
 hb:b.length<1000000
def splitV (s:Bs):V:=.tuple [sv (if qb1 s then s.take 32 else []),sv (if qb1 s then s.drop 33 else []),.int .i64 (if qb1 s then 0 else 4)]
def kfSplit:KF:=qcw (fun p:OneIn=>[sv p.s]) (fun p=>En.ret (splitV p.s))
theorem split_well:KnWell Tryz.prog E0 12 kfSplit:=
 qex qlx ok2 fun p S ho=>by
  obtain⟨U,h1,h2⟩:=split_run ho 0 p.s (by have:=p.hs; omega);exact⟨_,_,U,h1,h2,.tuple (.cons (Fz.same (.str ..)) (.cons (Fz.same (.str ..)) (.cons (Fz.same (.int ..)) .nil)))⟩
def qkx (h n:Bs):V:=.tuple [sv (npB h n),.int .i64 (npE h n)]
def kfNPath:KF:=qcw (fun p:TwoIn=>[sv p.a,sv p.b]) (fun p=>En.ret (qkx p.a p.b))
theorem kfNPath_run (a b:Bs) (ha:a.length<1000000) (hb:b.length<1000000) (S:St):kfNPath.run [sv a,sv b] S=some (.ret (qkx a b),S):=
 qe3 (enc:=fun p:TwoIn=>[sv p.a,sv p.b]) (out:=fun p=>En.ret (qkx p.a p.b)) (fun p q h=>by
  simp only[List.cons.injEq,and_true]at h
  rw[qnv h.1,qnv h.2]) ⟨a,b,ha,hb⟩ S
theorem npath_well:KnWell Tryz.prog E0 23 kfNPath:=
 qim (fn:=Tryz.f23) (c:=C23) (d:=B23) qlx ok2 (by kernel_rfl) (by kernel_rfl) (qa3 C23 _ (by kernel_rfl)) fun p S ho=>by
  obtain⟨U,h1,h2⟩:=npath_run ho 0 p.a p.b p.ha p.hb;exact⟨5,_,U,h1,h2,.tuple (.cons (Fz.same (.str ..)) (.cons (Fz.same (.int ..)) .nil))⟩
structure TextIn where
 s:Bs
 hs:s.length<1000000
def kfText (g:Bs->V):KF:=qcw (fun p:TextIn=>[sv p.s]) (fun p=>En.ret (g p.s))
theorem kfText_run (g:Bs->V) (s:Bs) (hs:s.length<1000000) (S:St):(kfText g).run [sv s] S=some (.ret (g s),S):=
 qe3 (enc:=fun p:TextIn=>[sv p.s]) (out:=fun p=>En.ret (g p.s)) (fun p q h=>by
  simp only[List.cons.injEq,and_true]at h
  rw[qnv h]) ⟨s,hs⟩ S
def K3:=qfe K2 35 (kfText fun s=>.int .i64 (chkN s))
theorem ok3:KnOk Tryz.prog E0 K3:=ok2.add (qex qlx ok2 fun p S ho=>by
 obtain⟨U,h1,h2⟩:=f22_run ho 0 p.s (by have:=p.hs; omega)
 exact⟨_,_,U,h1,h2,Fz.same (.int ..)⟩)
def K4:=qfe K3 44 (kfText fun s=>.bool (qb1 s))
theorem ok4:KnOk Tryz.prog E0 K4:=ok3.add (qex qlx ok2 fun p S ho=>by
 obtain⟨U,h1,h2⟩:=f23_run ho 0 p.s (by have:=p.hs; omega)
 exact⟨_,_,U,h1,h2,Fz.same (.bool ..)⟩)
def K5:=qfe K4 90 kfTrim
theorem ok5:KnOk Tryz.prog E0 K5:=ok4.add (qex qlx ok2 fun p S ho=>by
 obtain⟨U,h1,h2⟩:=f52_run ho 0 p.s p.hs
 exact⟨_,_,U,rd52 h1,h2,Fz.same (.str ..)⟩)
def K6:=qfe K5 19 kfHex
theorem ok6:KnOk Tryz.prog E0 K6:=ok5.add (qex qlx ok2 fun p S ho=>by
 obtain⟨U,h1,h2⟩:=f19_run ho 0 p.s p.hs
 exact⟨_,_,U,rd19 h1,h2,Fz.same (.str ..)⟩)
def kfTrue:KF:=qcw (fun _:Unit=>[]) (fun _=>En.ret (.bool true))
theorem kfTrue_run (S:St):kfTrue.run [] S=some (.ret (.bool true),S):=qe3 (enc:=fun _:Unit=>[]) (out:=fun _=>En.ret (.bool true)) (fun _ _ _=>rfl) () S
theorem kn5:KnWell Tryz.prog E0 10 kfTrue:=by
 refine⟨specKF_loc,fun w0 ρ s w args cargs e t hR hv hg=>?_⟩;unfold kfTrue qcw at hg;simp only at hg;by_cases hx:∃x:Unit,([]:List V)=args
 . rw[dif_pos hx]at hg
   simp only[oS,pM]at hg;obtain⟨rfl,rfl⟩:=hg;obtain⟨_,rfl⟩:=hx;obtain⟨l⟩:=cargs;cases hv;exact(closed_walk qlx ok2 glob0 works_runs w).mono fun ce w' ⟨h1,h2⟩=>⟨ρ,.bool true,h1,Rho.le_refl ρ,.bool true,hR.grown h2⟩
 . rw[dif_neg hx]at hg; cases hg
def K7:=qfe K6 10 kfTrue
def K8:=qfe K7 14 kfHash
def K9:=qfe K8 12 kfSplit
def KC:=qfe K9 23 kfNPath
theorem okC:KnOk Tryz.prog E0 KC:=(((ok6.add kn5).add hash_well).add split_well).add npath_well
theorem trim_k (m:Nat) (s:Bs) (hs:s.length<1000000) (S:St):(ev E0 KC (m+1)).f 90 [sv s,sv hexL] S=some (.ret (sv (trimB s)),S):=by
 rw[qc9 (show KC 90=some kfTrim from rfl)];exact kfTrim_run s hs S
theorem eqI0 (i:Nat):qa4 E0 .eql 3 false true (.int .i64 (i:Int)) (.int .i64 0)=some (.bool (decide (i=0))):=by
 rw[binV_ii,intsV_eql]
 congr 2
 simp
theorem Grew.of_eq {S U:St} (hh:U.heap=S.heap) (hn:U.next=S.next) (hu:U.on=S.on):Grew (fun _=>False) S U:=⟨by omega,hu,fun x _ _=>by rw[hh]⟩
theorem rc14 {n:Nat} {args:List V} {s:St} {r:En×St} (e:qaq E0 (ev E0 KC n) qa1 Tryz.f33 B33 args s=some r):(ev E0 KC (n+1)).f 33 args s=some r:=qa6 (c:=C33) (d:=B33) (by kernel_rfl) (by kernel_rfl) (qa3 C33 _ (by kernel_rfl)) rfl e
theorem rc26 {n:Nat} {args:List V} {s:St} {r:En×St} (e:qaq E0 (ev E0 KC n) qa1 Tryz.f62 B62 args s=some r):(ev E0 KC (n+1)).f 62 args s=some r:=qa6 (c:=C62) (d:=B62) (by kernel_rfl) (by kernel_rfl) (qa3 C62 _ (by kernel_rfl)) rfl e
theorem rc48 {n:Nat} {args:List V} {s:St} {r:En×St} (e:qaq E0 (ev E0 KC n) qa1 Tryz.f70 B70 args s=some r):(ev E0 KC (n+1)).f 70 args s=some r:=qa6 (c:=C70) (d:=B70) (by kernel_rfl) (by kernel_rfl) (qa3 C70 _ (by kernel_rfl)) rfl e
theorem rc64 {n:Nat} {args:List V} {s:St} {r:En×St} (e:qaq E0 (ev E0 KC n) qa1 Tryz.f95 B95 args s=some r):(ev E0 KC (n+1)).f 95 args s=some r:=qa6 (c:=C95) (d:=B95) (by kernel_rfl) (by kernel_rfl) (qa3 C95 _ (by kernel_rfl)) rfl e
theorem shl4 {a:Nat} (h:a<16):qa4 E0 .shl 3 false true (.int .i64 (a:Int)) (.int .u64 4)=some (.int .i64 ((a*16:Nat):Int)):=by
 have:=all256 (p:=fun n=>!(Nat.blt n 16)||isInt .i64 (n*16) (qdg .shl .i64 (.ofNat n) .u64 4)) (by decide +kernel) (n:=a) (by omega);simp only[blt_true.2 h,Bool.not_true,Bool.false_or]at this;exact qj9 this
theorem or4 {a c:Nat} (h:a<16) (hc:c<16):qa4 E0 .or 3 false false (.int .i64 ((a*16:Nat):Int)) (.int .i64 (c:Int))=some (.int .i64 ((a*16+c:Nat):Int)):=by
 have:=all256 (p:=fun n=>isInt .i64 (n/16*16+n%16) (qdg .or .i64 (.ofNat (n/16*16)) .i64 (.ofNat (n%16)))) (by decide +kernel) (n:=a*16+c) (by omega);simp only[show(a*16+c)/16=a by omega,show(a*16+c)%16=c by omega]at this;exact qj9 this
theorem ixB_hex {c:UInt8} (h:isX c=true):ixB hexL c=(ixH c:Int):=by
 unfold isX hexL at h;simp only[List.contains_cons,Bool.or_eq_true,beq_iff_eq,List.contains_nil,Bool.false_eq_true,or_false]at h;rcases h with h|h|h|h|h|h|h|h|h|h|h|h|h|h|h|h<;>subst h<;>rfl
section
variable {S T U:St}
theorem mul2 {i:Nat} (h:i<100000):qa4 E0 .mul 3 true false (.int .i64 2) (.int .i64 (i:Int))=some (.int .i64 ((2*i:Nat):Int)):=by
 rw[binV_ii,intsV_mul,qbg (by omega) (by omega)]
 congr 2
theorem set_row {pre:Bs} {x:UInt8} {n:Nat}:((pre++List.replicate (n+1) 0).map qbb).set pre.length (qbb x)=((pre++[x])++List.replicate n 0).map qbb:=by
 rw[List.map_append,List.set_append,iN (by simp),lM,Nat.sub_self,List.replicate_succ,List.map_cons,List.set_cons_zero];simp
theorem L26_spec {m N:Nat} (s:Bs) (hs:s.length<=20000) (k:Nat) (hk:2*k=s.length) (nk:Ac->St->Rs) (ek:Nat->Ac->St->Rs) {r:Nat} :
 ∀(q:Bs) (i f:Nat) (pre:Bs) (S:St),S.on=false->s.drop (2*i)=q->q.all isX=true->pre.length=i->q.length=2*(k-i)->i<=k->q.length<f->RowAt S r 5 1 ((pre++List.replicate (k-i) 0).map qbb)->
 ∃U,L62_31 (ev E0 KC (m+2)) N nk ek f (sv s) (.slice r 0 k k) (.int .i64 (k:Int)) (.int .i64 (i:Int)) S=ek 0 (fr 53 [(5,.slice r 0 k k)]) U/\RowAt U r 5 1 ((pre++qjk q).map qbb)/\Grew (fun x=>x=r) S U
 | _,_,0,_,_,_,_,_,_,_,_,hf,_=>by omega
 | [],i,f+1,pre,S,ho,hi,_,hp,hq,hik,_,hR=>by
  have:k-i=0:=by simp at hq; omega
  refine⟨S,?_,by rw[this]at hR; simpa [qjk]using hR,Grew.refl _ _⟩;rw[L62_31_eq,qds,dF (by omega),oB,ifK_bool,cF]
 | [a],i,f+1,pre,S,_,_,_,_,hq,_,_,_=>by simp at hq; omega
 | a::c::q,i,f+1,pre,S,ho,hi,hx,hp,hq,hik,hf,hR=>by
  obtain⟨hlt,ha,hr1,_⟩:=qba hi;obtain⟨hlt2,hc,hr2,_⟩:=qba hr1;rw[List.all_cons,List.all_cons,bA,bA]at hx;simp only[List.length_cons]at hq hf;have ik:i<k:=by omega
  obtain⟨a1,_⟩:=isX_ix a hx.1;obtain⟨c1,_⟩:=isX_ix c hx.2.1;obtain⟨n0,hn0⟩:∃n0,k-i=n0+1:=⟨k-i-1,by omega⟩
  rw[hn0]at hR;have hbyte:((UInt8.ofNat (ixH a*16+ixH c)).toNat)=ixH a*16+ixH c:=by rw[UInt8.toNat_ofNat']; omega
  have hlen:((pre++List.replicate (n0+1) (0:UInt8)).map qbb).length=k:=by simp; omega
  obtain⟨V1,k1,k2,k3,k4⟩:=hR.stK ho (i:=i) (by omega) (qbb (UInt8.ofNat (ixH a*16+ixH c)));rw[Nat.mul_one]at k1;have hset:=@set_row pre (UInt8.ofNat (ixH a*16+ixH c)) n0;rw[hp]at hset;rw[hset]at k2
  have hst:stP 1 (.ptr r i) (.int .u8 ((ixH a*16+ixH c:Nat):Int)) S=some (.tuple [],V1):=by
   show vu (stK S r i 1 (Ev.one (.int .u8 ((ixH a*16+ixH c:Nat):Int))))=_;have:Ev.one (.int .u8 ((ixH a*16+ixH c:Nat):Int))=qbb (UInt8.ofNat (ixH a*16+ixH c)):=by unfold qbb; rw[hbyte]; rfl
   rw[this,k1]; rfl
  obtain⟨l',hst'⟩:=qh8 ho hst;obtain⟨X,r1,r2,r3,r4⟩:=qjp ho V1 l' [[],[],[],[],[],[],(S.lg []).log,[],[],[],[],[],[],(S.lg []).log,[],(S.lg []).log,[],l'];have gX:Grew (fun x=>x=r) S X:=k3.trans ((Grew.of_eq r2 r3 (r4.trans (k3.on.trans ho).symm)).mono fun _ _ h=>(h:False).elim);obtain⟨U,b1,b2,b3⟩:=L26_spec (m:=m) (N:=N) s hs k hk nk ek q (i+1) f (pre++[UInt8.ofNat (ixH a*16+ixH c)]) X r4 (by rw[show 2*(i+1)=2*i+1+1 by omega]; exact hr2) hx.2.2 (by rw[lAq,List.length_singleton]; omega) (by omega) (by omega) (by omega) (by rw[show k-(i+1)=n0 by omega]; exact k2.same r2);refine⟨U,?_,by rw[qjk]; simpa using b2,gX.trans b3⟩;have hix1:ixS (sv s) (.int .i64 ((2*i:Nat):Int))=some (.int .u8 (a.toNat:Int)):=by rw[qci s .i64 (2*i) hlt,ha]
  have hix2:ixS (sv s) (.int .i64 ((2*i+1:Nat):Int))=some (.int .u8 (c.toNat:Int)):=by rw[qci s .i64 (2*i+1) hlt2,hc]
  have f48:∀(x:UInt8) (Q:St),(ev E0 KC (m+2)).f 70 [sv [48,49,50,51,52,53,54,55,56,57,97,98,99,100,101,102],.int .u8 (x.toNat:Int)] Q=some (.ret (.int .i64 (ixB hexL x)),Q):=fun x Q=>rc48 (by
   show F70 (ev E0 KC (m+1)) qa1 (sv hexL) (.int .u8 (x.toNat:Int)) Q=_
   rw[F70_eq,rc64 (F64_spec (ev E0 KC m) qa1 hexL x Q),callP_ret])
  rw[L62_31_eq,qds,dT ik,oB,ifK_bool,cT,mul2 (by omega),oB,hix1,oB,f48,qal,ixB_hex hx.1,shl4 a1,oB,oB,qc1 (by omega),oB,hix2,oB,qih,f48,qal,ixB_hex hx.2.1,or4 a1 c1,oB,cvI_int,wrap_u8 (by omega) (by omega),oB];dsimp only;rw[ixP_sl r k i ik,oB,qih,qih,qdw,hst',oB];dsimp only;rw[qc1 (by omega),oB];rw[show(V1.lg l').log=l' from rfl,r1,b1]
theorem make53 (ho:S.on=false) (k:Nat) (hk:k<=20000):∃U,qe1 E0 43 (.int .i64 (k:Int)) (.int .i64 (k:Int)) S=some (.slice S.next 0 k k,U)/\RowAt U S.next 5 1 ((List.replicate k (0:UInt8)).map qbb)/\Grew (fun _=>False) S U/\U.next=S.next+1:=by
 have hr:=rowAt_makeRow (s:=S) (e:=5) (z:=1) (n:=k) (v:=.int .u8 0) ho (by decide) (by unfold big; omega);refine⟨qic S 5 1 (.int .u8 0) k,?_,?_,qca ho _ _,rfl⟩
 . unfold qe1
   rw[show qcn E0 43=some (5,1,1) by kernel_rfl,oB,show qeb (.int .i64 (k:Int))=some k from rfl,oB,oB];unfold makeAtK;rw[show Nat.ble k k=true from ble_true.2 (lR _),blt_true.2 (show k*(1+1+1)<qac by unfold qac; omega),Bool.and_self,cT,show qg7 E0 5=some (.int .u8 0) by kernel_rfl,oB];rfl
 . rw[List.map_replicate]
   exact hr
theorem und53:und E0 43=some (.slice 5):=by kernel_rfl
def digB (s:Bs):Bool:=(decide (s≠[])&&decide (s.length%2=0))&&s.all isX
theorem valD_dig {s:Bs} (h:¬s=[45]):valD s=if digB s=true then some (qjk s)else none:=by
 unfold valD digB;rw[iN h];by_cases h1:s=[]
 . subst h1; rfl
 . by_cases h2:s.length%2=0
   . rw[dT h1,dT h2]
     simp[h1,h2]
   . rw[dF h2]
     simp[h2]
theorem rem2 (k:Nat):qa4 E0 .rem 3 false true (.int .i64 (k:Int)) (.int .i64 2)=some (.int .i64 ((k%2:Nat):Int)):=by
 rw[binV_ii,qgt _ _ _ (by decide)];rfl
theorem quo2 {k:Nat} (h:k<100000):qa4 E0 .quo 3 false true (.int .i64 (k:Int)) (.int .i64 2)=some (.int .i64 ((k/2:Nat):Int)):=by
 rw[binV_ii,qj7 _ _ _ (by decide)];have:((k:Int).tdiv 2)=((k/2:Nat):Int):=rfl;rw[this,qbg (by omega) (by omega)]
theorem f26_run (ho:S.on=false) (m:Nat) (x0:V) (s:Bs) (hs:s.length<=20000) {w:En}
 (hT:∀m,(ev E0 KC (m+1)).f 33 [x0,.bool true,.int .i64 4] S=some (.ret (.tuple []),S)) (hm:valD s=none->∀m,(ev E0 KC (m+1)).f 33 [x0,.bool false,.int .i64 4] S=some (w,S)) (hw:∀k,qaf (some (w,S)) k=some (w,S)) :
 ∃U,F62 (ev E0 KC (m+2)) qa1 x0 (sv s) S=some (match valD s with|some v=>.ret (sv v)|none=>w,U)/\Grew (fun _=>False) S U:=by
 by_cases h45:s=[45]
 . subst h45
   exact⟨S,by rw[F62_eq]; rfl,Grew.refl _ _⟩
 . rw[valD_dig h45]at hm ⊢
   have e45:qa4 E0 .eql 9 false true (sv s) (sv [45])=some (.bool false):=by rw[eqStr]; simp[h45]
   rw[F62_eq,e45,oB,ifK_bool,cF,neStr,oB];by_cases h0:s=[]
   . subst h0
     refine⟨S,?_,Grew.refl _ _⟩;simp only[beq_self_eq_true,Bool.not_true,qah,oB,cF,pickV_bool,callP_ret];rw[hm rfl,hw];rfl
   . have hne:(!(s==([]:Bs)))=true:=by simp[h0]
     rw[hne];simp only[qah,oB,cT,pickV_bool,qa5,rem2];have hq:qa4 E0 .eql 3 false true (.int .i64 ((s.length%2:Nat):Int)) (.int .i64 0)=some (.bool (decide (s.length%2=0))):=eqI0 _;rw[hq];unfold digB;rw[dT h0,Bool.true_and];by_cases h2:s.length%2=0
     . rw[dT h2,Bool.true_and]
       simp only[qah,oB,cT,pickV_bool];show ∃U,(qaf ((ev E0 KC (m+1+1)).f 90 [sv s,sv hexL] S) _)=_/\_;rw[trim_k (m+1) s (by omega) S,callP_ret,eqStr,oB,trim_nil];cases hx:s.all isX with
       | false=>
        have hd:digB s=false:=by unfold digB; rw[hx,Bool.and_false]
        rw[hd]at hm;rw[hm rfl,hw,iN (by simp)];exact⟨S,rfl,Grew.refl _ _⟩
       | true=>
        rw[hT,callP_ret,iP rfl,quo2 (by omega),oB];obtain⟨S1,a1,a2,a3,a4⟩:=make53 ho (s.length/2) (by omega);rw[a1,oB];dsimp only;rw[show lnS (.slice S.next 0 (s.length/2) (s.length/2)) S1=some (.int .i64 ((s.length/2:Nat):Int),S1)from rfl,oB];dsimp only;obtain⟨U,b1,b2,b3⟩:=L26_spec (m:=m) (N:=qa1) s hs (s.length/2) (by omega) (R62_24 (ev E0 KC (m+2)) qa1 (qat E0 (ev E0 KC (m+2)) Tryz.f62) qad) (exB 0 (R62_24 (ev E0 KC (m+2)) qa1 (qat E0 (ev E0 KC (m+2)) Tryz.f62) qad) qad) s 0 qa1 [] S1 (a3.on.trans ho) rfl hx rfl (by omega) (Nat.zero_le _) (by unfold qa1; omega) (by simpa using a2);rw[show V.int .i64 0=.int .i64 ((0:Nat):Int)from rfl,b1,exB_same,R62_24_eq];rw[List.nil_append]at b2;have hpl:=(pairs_hex s.length s (lR _) h2 hx).2;have hcv:=convert_row (b3.on.trans (a3.on.trans ho)) und53 und5 und9 b2 (off:=0) (len:=s.length/2) (cap:=s.length/2) (by omega);rw[List.drop_zero,List.take_of_length_le (by omega)]at hcv;rw[hcv,oB];exact⟨U,rfl,a3.own (lR _) b3⟩
     . rw[dF h2,Bool.false_and]
       refine⟨S,?_,Grew.refl _ _⟩;simp only[qah,oB,cF,pickV_bool,callP_ret];have hd:digB s=false:=by unfold digB; rw[dF h2,Bool.and_false,Bool.false_and]
       rw[hd]at hm;rw[hm rfl,hw];rfl
end
def faultT (c n:Int):Tr V:=Tr.ofListFrom .nil [.int .i64 c,.int .i64 n] 0
def qmm (c n:Int):V:=.iface 53 (.agg 2 (faultT c n))
theorem build_53 (c n:Int):qfj E0 53 [(0,.int .i64 c),(1,.int .i64 n)]=some (.agg 2 (faultT c n)):=by kernel_rfl
theorem fault_under (N:Nat) (c n:Int):Under N (qmm c n):=.iface (.agg fun i v h=>by
 unfold faultT at h;rw[Tr.get_ofList]at h
 match i,h with
 | 0,h=>cases h; exact .int ..
 | 1,h=>cases h; exact .int ..
 | _+2,h=>simp at h)
structure DigIn where
 s:Bs
 hs:s.length<=20000
open Classical in
def kfVal:KF:=⟨fun args s=>match args with
 | [.ptr b o,x]=>if h:o=0/\∃p:DigIn,sv p.s=x then(match valD h.2.choose.s with
  | some v=>some (.ret (sv v),s)
  | none=>(ld s b 4).bind fun p=>match p.1 with
   | .int .i64 n=>some (.pan (qmm 4 n),p.2)
   | _=>none)else none
 | _=>none⟩
theorem kfVal_locp (args:List V):LocP fun s=>kfVal.run args s:=by
 unfold kfVal;dsimp only;split
 . split
   . split
     . exact LocP.ret _
     . refine Loc.bind (loc_ld _ _) fun v=>?_
       dsimp only;split
       . exact LocP.ret _
       . exact Loc.none
   . exact Loc.none
 . exact Loc.none
theorem kfVal_run (b:Nat) (s:Bs) (hs:s.length<=20000) (S:St):kfVal.run [.ptr b 0,sv s] S=match valD s with
 | some v=>some (.ret (sv v),S)
 | none=>(ld S b 4).bind fun p=>match p.1 with
  | .int .i64 n=>some (.pan (qmm 4 n),p.2)
  | _=>none:=by
 have h:(0=0)/\∃p:DigIn,sv p.s=sv s:=⟨rfl,⟨s,hs⟩,rfl⟩
 unfold kfVal;dsimp only;rw[dif_pos h];have:h.2.choose.s=s:=qnv h.2.choose_spec;rw[this]
theorem ld_off {S T:St} {b i:Nat} {v:V} (h:ld S b i=some (v,T)):ld S.off b i=some (v,S.off)/\T.heap=S.heap/\T.next=S.next:=by
 unfold ld at h ⊢;show(match S.heap.get b with|some (.cells _ esz n _ c)=>_|_=>_)=_/\_;split at h
 . rename_i e esz n ro c hb
   cases hq:(Nat.blt i (esz*n)&&Nat.blt (esz*n) big)with
   | false=>rw[hq]at h; cases h
   | true=>
    rw[hq,cT,oI]at h;obtain⟨t,h1,h2⟩:=h;rw[oI]at h2;obtain⟨u,h2,h3⟩:=h2;simp only[oS,pM]at h3;obtain⟨rfl,rfl⟩:=h3;rw[hb];dsimp only;rw[hq,cT,h1,oB,h2,oB,qav rfl];refine⟨rfl,?_,?_⟩<;>(unfold St.note; cases S.on<;>rfl)
 . cases h
theorem mustC_yes (m:Nat) (p:V) (c:Int) (S:St):(ev E0 KC (m+1)).f 33 [p,.bool true,.int .i64 c] S=some (.ret (.tuple []),S):=rc14 (by
 show F33 (ev E0 KC m) qa1 p (.bool true) (.int .i64 c) S=_;rw[F33_eq]
 rfl)
theorem mustC_no {S:St} {b:Nat} {n:Int} (m:Nat) (c:Int) (h:ld S b 4=some (.int .i64 n,S)):(ev E0 KC (m+1)).f 33 [.ptr b 0,.bool false,.int .i64 c] S=some (.pan (qmm c n),S):=rc14 (by
 show F33 (ev E0 KC m) qa1 (.ptr b 0) (.bool false) (.int .i64 c) S=_;rw[F33_eq,unV_not,oB,nF,ifK_bool,cT,nilP,oB,show faP 4 false 1 (.ptr b 0)=some (.ptr b 4)from rfl,oB,show ld1 (.ptr b 4) S=some (.int .i64 n,S)from h,oB];dsimp only;rw[build_53,oB]
 rfl)
theorem kn26:KnWell Tryz.prog E0 62 kfVal:=by
 refine knWell_of qlx okC kfVal_locp fun args s e t hg=>?_;have hg0:=hg;unfold kfVal at hg;dsimp only at hg;split at hg
 . rename_i b o x
   split at hg
   . rename_i h
     obtain⟨rfl,p,rfl⟩:=h;rw[kfVal_run b p.s p.hs s]at hg0;cases hv:valD p.s with
     | some v=>
      rw[hv]at hg0;simp only[oS,pM]at hg0;obtain⟨rfl,rfl⟩:=hg0;obtain⟨U,h1,h2⟩:=f26_run (S:=s.off) rfl 0 (.ptr b 0) p.s p.hs (w:=.pan .nilptr) (fun m=>mustC_yes m _ _ _) (fun e=>by rw[hv]at e; cases e) (fun k=>rfl);rw[hv]at h1;refine⟨_,_,U,rc26 h1,⟨rfl,h2.next,fun b o hb hlt=>?_,fun b o hb=>.inl hb⟩,Fz.same (.str ..)⟩;rw[h2.keep b hlt (fun h=>h)];exact hb
     | none=>
      rw[hv]at hg0;simp only[oI]at hg0;obtain⟨⟨u,s2⟩,q1,q2⟩:=hg0;dsimp only at q2;split at q2
      . rename_i n
        simp only[oS,pM]at q2;obtain⟨rfl,rfl⟩:=q2;obtain⟨k1,k2,k3⟩:=ld_off q1;obtain⟨U,h1,h2⟩:=f26_run (S:=s.off) rfl 0 (.ptr b 0) p.s p.hs (w:=.pan (qmm 4 n)) (fun m=>mustC_yes m _ _ _) (fun _ m=>mustC_no m 4 k1) (fun k=>rfl);rw[hv]at h1;refine⟨_,_,U,rc26 h1,⟨k3,h2.next,fun b o hb hlt=>?_,fun b o hb=>.inl (by rw[<- k2]; exact hb)⟩,Fz.same (fault_under _ _ _)⟩;rw[h2.keep b hlt (fun h=>h)];rw[k2]at hb;exact hb
      . cases q2
   . cases hg
 . cases hg
def KD:=qfe KC 62 kfVal
theorem okD:KnOk Tryz.prog E0 KD:=okC.add kn26
section
variable {S:St}
theorem check_k (m:Nat) (s:Bs) (hs:s.length<1000000) (S:St):(ev E0 KD (m+1)).f 35 [sv s] S=some (.ret (.int .i64 (chkN s)),S):=by
 rw[qc9 (show KD 35=some (kfText fun s=>.int .i64 (chkN s))from rfl)];exact kfText_run _ s hs S
theorem path_k (m:Nat) (s:Bs) (hs:s.length<1000000) (S:St):(ev E0 KD (m+1)).f 44 [sv s] S=some (.ret (.bool (qb1 s)),S):=by
 rw[qc9 (show KD 44=some (kfText fun s=>.bool (qb1 s))from rfl)];exact kfText_run (fun s=>.bool (qb1 s)) s hs S
theorem hex_k (m:Nat) (s:Bs) (hs:s.length<=1000) (S:St):(ev E0 KD (m+1)).f 19 [sv s] S=some (.ret (sv (hexD s)),S):=by
 rw[qc9 (show KD 19=some kfHex from rfl)];exact kfHex_run s hs S
end
theorem rq6 {n:Nat} {args:List V} {s:St} {r:En×St} (e:qaq E0 (ev E0 KD n) qa1 Tryz.f6 B6 args s=some r):(ev E0 KD (n+1)).f 6 args s=some r:=qa6 (c:=C6) (d:=B6) (by kernel_rfl) (by kernel_rfl) (qa3 C6 _ (by kernel_rfl)) rfl e
theorem rq14 {n:Nat} {args:List V} {s:St} {r:En×St} (e:qaq E0 (ev E0 KD n) qa1 Tryz.f33 B33 args s=some r):(ev E0 KD (n+1)).f 33 args s=some r:=qa6 (c:=C33) (d:=B33) (by kernel_rfl) (by kernel_rfl) (qa3 C33 _ (by kernel_rfl)) rfl e
theorem rq15 {n:Nat} {args:List V} {s:St} {r:En×St} (e:qaq E0 (ev E0 KD n) qa1 Tryz.f15 B15 args s=some r):(ev E0 KD (n+1)).f 15 args s=some r:=qa6 (c:=C15) (d:=B15) (by kernel_rfl) (by kernel_rfl) (qa3 C15 _ (by kernel_rfl)) rfl e
theorem rq16 {n:Nat} {args:List V} {s:St} {r:En×St} (e:qaq E0 (ev E0 KD n) qa1 Tryz.f16 B16 args s=some r):(ev E0 KD (n+1)).f 16 args s=some r:=qa6 (c:=C16) (d:=B16) (by kernel_rfl) (by kernel_rfl) (qa3 C16 _ (by kernel_rfl)) rfl e
theorem rq18 {n:Nat} {args:List V} {s:St} {r:En×St} (e:qaq E0 (ev E0 KD n) qa1 Tryz.f18 B18 args s=some r):(ev E0 KD (n+1)).f 18 args s=some r:=qa6 (c:=C18) (d:=B18) (by kernel_rfl) (by kernel_rfl) (qa3 C18 _ (by kernel_rfl)) rfl e
theorem rq24 {n:Nat} {args:List V} {s:St} {r:En×St} (e:qaq E0 (ev E0 KD n) qa1 Tryz.f46 B46 args s=some r):(ev E0 KD (n+1)).f 46 args s=some r:=qa6 (c:=C46) (d:=B46) (by kernel_rfl) (by kernel_rfl) (qa3 C46 _ (by kernel_rfl)) rfl e
theorem rq25 {n:Nat} {args:List V} {s:St} {r:En×St} (e:qaq E0 (ev E0 KD n) qa1 Tryz.f50 B50 args s=some r):(ev E0 KD (n+1)).f 50 args s=some r:=qa6 (c:=C50) (d:=B50) (by kernel_rfl) (by kernel_rfl) (qa3 C50 _ (by kernel_rfl)) rfl e
theorem rq29 {n:Nat} {args:List V} {s:St} {r:En×St} (e:qaq E0 (ev E0 KD n) qa1 Tryz.f38 B38 args s=some r):(ev E0 KD (n+1)).f 38 args s=some r:=qa6 (c:=C38) (d:=B38) (by kernel_rfl) (by kernel_rfl) (qa3 C38 _ (by kernel_rfl)) rfl e
theorem rq30 {n:Nat} {args:List V} {s:St} {r:En×St} (e:qaq E0 (ev E0 KD n) qa1 Tryz.f39 B39 args s=some r):(ev E0 KD (n+1)).f 39 args s=some r:=qa6 (c:=C39) (d:=B39) (by kernel_rfl) (by kernel_rfl) (qa3 C39 _ (by kernel_rfl)) rfl e
theorem rq31 {n:Nat} {args:List V} {s:St} {r:En×St} (e:qaq E0 (ev E0 KD n) qa1 Tryz.f40 B40 args s=some r):(ev E0 KD (n+1)).f 40 args s=some r:=qa6 (c:=C40) (d:=B40) (by kernel_rfl) (by kernel_rfl) (qa3 C40 _ (by kernel_rfl)) rfl e
theorem rq32 {n:Nat} {args:List V} {s:St} {r:En×St} (e:qaq E0 (ev E0 KD n) qa1 Tryz.f41 B41 args s=some r):(ev E0 KD (n+1)).f 41 args s=some r:=qa6 (c:=C41) (d:=B41) (by kernel_rfl) (by kernel_rfl) (qa3 C41 _ (by kernel_rfl)) rfl e
theorem rq33 {n:Nat} {args:List V} {s:St} {r:En×St} (e:qaq E0 (ev E0 KD n) qa1 Tryz.f42 B42 args s=some r):(ev E0 KD (n+1)).f 42 args s=some r:=qa6 (c:=C42) (d:=B42) (by kernel_rfl) (by kernel_rfl) (qa3 C42 _ (by kernel_rfl)) rfl e
theorem rq34 {n:Nat} {args:List V} {s:St} {r:En×St} (e:qaq E0 (ev E0 KD n) qa1 Tryz.f43 B43 args s=some r):(ev E0 KD (n+1)).f 43 args s=some r:=qa6 (c:=C43) (d:=B43) (by kernel_rfl) (by kernel_rfl) (qa3 C43 _ (by kernel_rfl)) rfl e
theorem rq35 {n:Nat} {args:List V} {s:St} {r:En×St} (e:qaq E0 (ev E0 KD n) qa1 Tryz.f45 B45 args s=some r):(ev E0 KD (n+1)).f 45 args s=some r:=qa6 (c:=C45) (d:=B45) (by kernel_rfl) (by kernel_rfl) (qa3 C45 _ (by kernel_rfl)) rfl e
theorem rq36 {n:Nat} {args:List V} {s:St} {r:En×St} (e:qaq E0 (ev E0 KD n) qa1 Tryz.f47 B47 args s=some r):(ev E0 KD (n+1)).f 47 args s=some r:=qa6 (c:=C47) (d:=B47) (by kernel_rfl) (by kernel_rfl) (qa3 C47 _ (by kernel_rfl)) rfl e
theorem rq37 {n:Nat} {args:List V} {s:St} {r:En×St} (e:qaq E0 (ev E0 KD n) qa1 Tryz.f48 B48 args s=some r):(ev E0 KD (n+1)).f 48 args s=some r:=qa6 (c:=C48) (d:=B48) (by kernel_rfl) (by kernel_rfl) (qa3 C48 _ (by kernel_rfl)) rfl e
theorem rq38 {n:Nat} {args:List V} {s:St} {r:En×St} (e:qaq E0 (ev E0 KD n) qa1 Tryz.f49 B49 args s=some r):(ev E0 KD (n+1)).f 49 args s=some r:=qa6 (c:=C49) (d:=B49) (by kernel_rfl) (by kernel_rfl) (qa3 C49 _ (by kernel_rfl)) rfl e
theorem rq39 {n:Nat} {args:List V} {s:St} {r:En×St} (e:qaq E0 (ev E0 KD n) qa1 Tryz.f51 B51 args s=some r):(ev E0 KD (n+1)).f 51 args s=some r:=qa6 (c:=C51) (d:=B51) (by kernel_rfl) (by kernel_rfl) (qa3 C51 _ (by kernel_rfl)) rfl e
theorem rq41 {n:Nat} {args:List V} {s:St} {r:En×St} (e:qaq E0 (ev E0 KD n) qa1 Tryz.f53 B53 args s=some r):(ev E0 KD (n+1)).f 53 args s=some r:=qa6 (c:=C53) (d:=B53) (by kernel_rfl) (by kernel_rfl) (qa3 C53 _ (by kernel_rfl)) rfl e
theorem rq51 {n:Nat} {args:List V} {s:St} {r:En×St} (e:qaq E0 (ev E0 KD n) qa1 Tryz.f79 B79 args s=some r):(ev E0 KD (n+1)).f 79 args s=some r:=qa6 (c:=C79) (d:=B79) (by kernel_rfl) (by kernel_rfl) (qa3 C79 _ (by kernel_rfl)) rfl e
theorem rq57 {n:Nat} {args:List V} {s:St} {r:En×St} (e:qaq E0 (ev E0 KD n) qa1 Tryz.f75 B75 args s=some r):(ev E0 KD (n+1)).f 75 args s=some r:=qa6 (c:=C75) (d:=B75) (by kernel_rfl) (by kernel_rfl) (qa3 C75 _ (by kernel_rfl)) rfl e
theorem rq58 {n:Nat} {args:List V} {s:St} {r:En×St} (e:qaq E0 (ev E0 KD n) qa1 Tryz.f76 B76 args s=some r):(ev E0 KD (n+1)).f 76 args s=some r:=qa6 (c:=C76) (d:=B76) (by kernel_rfl) (by kernel_rfl) (qa3 C76 _ (by kernel_rfl)) rfl e
theorem rq59 {n:Nat} {args:List V} {s:St} {r:En×St} (e:qaq E0 (ev E0 KD n) qa1 Tryz.f77 B77 args s=some r):(ev E0 KD (n+1)).f 77 args s=some r:=qa6 (c:=C77) (d:=B77) (by kernel_rfl) (by kernel_rfl) (qa3 C77 _ (by kernel_rfl)) rfl e
theorem rq60 {n:Nat} {args:List V} {s:St} {r:En×St} (e:qaq E0 (ev E0 KD n) qa1 Tryz.f78 B78 args s=some r):(ev E0 KD (n+1)).f 78 args s=some r:=qa6 (c:=C78) (d:=B78) (by kernel_rfl) (by kernel_rfl) (qa3 C78 _ (by kernel_rfl)) rfl e
theorem rq62 {n:Nat} {args:List V} {s:St} {r:En×St} (e:qaq E0 (ev E0 KD n) qa1 Tryz.f81 B81 args s=some r):(ev E0 KD (n+1)).f 81 args s=some r:=qa6 (c:=C81) (d:=B81) (by kernel_rfl) (by kernel_rfl) (qa3 C81 _ (by kernel_rfl)) rfl e
theorem rq79 {n:Nat} {args:List V} {s:St} {r:En×St} (e:qaq E0 (ev E0 KD n) qa1 Tryz.f102 B102 args s=some r):(ev E0 KD (n+1)).f 102 args s=some r:=qa6 (c:=C102) (d:=B102) (by kernel_rfl) (by kernel_rfl) (qa3 C102 _ (by kernel_rfl)) rfl e
section
variable {S T U:St}
def fstB (c:UInt8):Bool:=c==95||(inB 97 122 c||inB 65 90 c)
def varL:Bool->Bs->Bool
 | _,[]=>true
 | b,c::s=>(fstB c||(!b&&inB 48 57 c))&&varL false s
def qhb (s:Bs):Bool:=varL true s&&(((decide (s≠[])&&decide (s.length<=56))&&!(s==[111,117,116]))&&!(s==[110,97,109,101]))
theorem u8eql (a:Nat) (ha:a<256) (c:UInt8):qa4 E0 .eql 5 false true (.int .u8 (c.toNat:Int)) (.int .u8 (a:Int))=some (.bool (c==UInt8.ofNat a)):=by
 rw[binV_ii,intsV_eql]
 congr 2
 by_cases h:c=UInt8.ofNat a
 . rw[h,UInt8.toNat_ofNat',show a%2^8=a by omega]; simp
 . have:¬((c.toNat:Int)=(a:Int)):=fun e=>h (UInt8.toNat_inj.1 (by rw[UInt8.toNat_ofNat']; omega))
   rw[dF this];exact(beq_false_of_ne h).symm
theorem u8lss (a:Nat) (c:UInt8):qa4 E0 .lss 5 false true (.int .u8 (c.toNat:Int)) (.int .u8 (a:Int))=some (.bool (decide (c.toNat<a))):=by
 rw[binV_ii,intsV_lss]
 congr 2
 simp
theorem u8gtr (a:Nat) (c:UInt8):qa4 E0 .gtr 5 false true (.int .u8 (c.toNat:Int)) (.int .u8 (a:Int))=some (.bool (decide (a<c.toNat))):=by
 rw[binV_ii,intsV_gtr]
 congr 2
 simp
theorem f51_run (m:Nat) (c:UInt8) (S:St):(ev E0 KD (m+1)).f 79 [.int .u8 (c.toNat:Int)] S=some (.ret (.bool (fstB c)),S):=rq51 (by
 show F79 (ev E0 KD m) qa1 (.int .u8 (c.toNat:Int)) S=_;have e1:qa4 E0 .eql 5 false true (.int .u8 (c.toNat:Int)) (.int .u8 95)=some (.bool (c==95)):=u8eql 95 (by decide) c;have e2:qa4 E0 .geq 5 false true (.int .u8 (c.toNat:Int)) (.int .u8 97)=some (.bool (decide (97<=c.toNat))):=qle 97 c;have e3:qa4 E0 .leq 5 false true (.int .u8 (c.toNat:Int)) (.int .u8 122)=some (.bool (decide (c.toNat<=122))):=qo0 122 c;have e4:qa4 E0 .geq 5 false true (.int .u8 (c.toNat:Int)) (.int .u8 65)=some (.bool (decide (65<=c.toNat))):=qle 65 c;have e5:qa4 E0 .leq 5 false true (.int .u8 (c.toNat:Int)) (.int .u8 90)=some (.bool (decide (c.toNat<=90))):=qo0 90 c;rw[F79_eq,e1];unfold fstB inB;cases c==95 with
 | true=>rfl
 | false=>
  simp only[oB,qag,qah,nF,cT,e2,pickV_bool];cases decide (97<=c.toNat)with
  | false=>
   simp only[oB,qag,qah,nF,cT,cF,e4,pickV_bool];cases decide (65<=c.toNat)with
   | false=>rfl
   | true=>simp only[oB,qag,qah,nF,cT,cF,e5,pickV_bool]; rfl
  | true=>
   simp only[oB,qag,qah,nF,cT,cF,e3,pickV_bool];cases decide (c.toNat<=122)with
   | true=>rfl
   | false=>
    simp only[oB,qag,qah,nF,cT,cF,e4,pickV_bool];cases decide (65<=c.toNat)with
    | false=>rfl
    | true=>simp only[oB,qag,qah,nF,cT,cF,e5,pickV_bool]; rfl)
theorem body51:E0.ext.get 79=none/\qb5 E0 79=true:=⟨by kernel_rfl,by kernel_rfl⟩
theorem L25_spec {m N:Nat} (s:Bs) (hs:s.length<9223372036854775807) (nk:Ac->St->Rs) (ek:Nat->Ac->St->Rs) (S:St) :
 ∀(q:Bs) (i n:Nat),s.drop i=q->q.length<n->
 L50_22 (ev E0 KD (m+1)) N nk ek n (sv s) (.fn (.func 79) [] []) (.int .i64 (s.length:Int)) (.int .i64 (i:Int)) S=if varL (decide (i=0)) q then ek 0 (fr 48 [(0,sv s)]) S else some (.ret (.bool false),S)
 | _,_,0,_,hn=>by omega
 | [],i,n+1,hi,_=>by
  rw[L50_22_eq,qds,dF (Nat.not_lt.2 (qau hi)),oB,ifK_bool,cF];rfl
 | c::q,i,n+1,hi,hn=>by
  obtain⟨hlt,hc,hr',hm⟩:=qba hi;have ih:=L25_spec (m:=m) (N:=N) s hs nk ek S q (i+1) n hr' (by simpa using hn);rw[dF (by omega:¬i+1=0)]at ih;have e1:qa4 E0 .lss 5 false true (.int .u8 (c.toNat:Int)) (.int .u8 48)=some (.bool (decide (c.toNat<48))):=u8lss 48 c;have e2:qa4 E0 .gtr 5 false true (.int .u8 (c.toNat:Int)) (.int .u8 57)=some (.bool (decide (57<c.toNat))):=u8gtr 57 c;have hx:ixS (sv s) (.int .i64 (i:Int))=some (.int .u8 (c.toNat:Int)):=by rw[qci s .i64 i hlt,hc]
  rw[L50_22_eq,qds,dT hlt,oB,ifK_bool,cT,hx,oB,qbm body51.1 body51.2];show(qaf ((ev E0 KD (m+1)).f 79 [.int .u8 (c.toNat:Int)] S) _)=_;rw[f51_run,callP_ret,unV_not,oB,varL];cases fstB c with
  | true=>
   simp only[oB,qag,qah,nF,Bool.not_true,cT,cF,pickV_bool,qfn,ifK_bool];rw[qc1 (by omega),oB,ih,Bool.true_or,Bool.true_and]
  | false=>
   simp only[oB,qag,qah,nF,Bool.not_true,cT,cF,pickV_bool,qfn,ifK_bool,eqI0,Bool.false_or];by_cases h0:i=0
   . rw[dT h0]
     simp only[oB,qag,qah,nF,Bool.not_true,cT,cF,pickV_bool,qfn,ifK_bool,Bool.false_and];rfl
   . rw[dF h0]
     simp only[oB,qag,qah,nF,Bool.not_true,cT,cF,pickV_bool,qfn,ifK_bool,hx,e1,Bool.true_and];unfold inB;by_cases h1:c.toNat<48
     . rw[dT h1,dF (by omega:¬48<=c.toNat)]
       simp only[oB,qag,qah,nF,Bool.not_true,cT,cF,pickV_bool,qfn,ifK_bool,Bool.false_and];rfl
     . rw[dF h1,dT (by omega:48<=c.toNat)]
       simp only[oB,qag,qah,nF,Bool.not_true,cT,cF,pickV_bool,qfn,ifK_bool,Bool.true_and,hx,e2];by_cases h2:57<c.toNat
       . rw[dT h2,dF (by omega:¬c.toNat<=57)]
         rfl
       . rw[dF h2,dT (by omega:c.toNat<=57),cF,qc1 (by omega),oB,ih,Bool.true_and]
theorem f25_run (m:Nat) (s:Bs) (hs:s.length<9223372036854775807) (S:St):(ev E0 KD (m+2)).f 50 [sv s] S=some (.ret (.bool (qhb s)),S):=rq25 (by
 show F50 (ev E0 KD (m+1)) qa1 (sv s) S=_;have h0:=L25_spec (m:=m) (N:=qa1) s hs (R50_2 (ev E0 KD (m+1)) qa1 (qat E0 (ev E0 KD (m+1)) Tryz.f50) qad) (exB 0 (R50_2 (ev E0 KD (m+1)) qa1 (qat E0 (ev E0 KD (m+1)) Tryz.f50) qad) qad) S s 0 qa1 rfl (by unfold qa1; omega);rw[F50_eq,qa5,oB];dsimp only;rw[show V.int .i64 0=.int .i64 ((0:Nat):Int)from rfl,h0];unfold qhb;rw[show decide (0=0)=true from rfl];cases varL true s with
 | false=>rfl
 | true=>
  rw[iP rfl,exB_same,R50_2_eq,neStr,oB,Bool.true_and];cases s with
  | nil=>rfl
  | cons c s=>
   have hne:(!((c::s)==([]:Bs)))=true:=rfl;rw[hne,dT (by simp:c::s≠[])]
   have hle:qa4 E0 .leq 3 false true (.int .i64 ((c::s).length:Int)) (.int .i64 56)=some (.bool (decide ((c::s).length<=56))):=by
    rw[binV_ii,intsV_leq]
    congr 2
    simp;omega
   simp only[oB,qag,qah,cT,pickV_bool,qa5,hle,neStr,Bool.true_and];cases decide ((c::s).length<=56)with
   | false=>rfl
   | true=>
    simp only[oB,qag,qah,cT,pickV_bool,qa5,hle,neStr,Bool.true_and];cases(!((c::s)==[111,117,116]))with
    | false=>rfl
    | true=>simp only[oB,qag,qah,cT,pickV_bool,neStr,Bool.true_and])
theorem ltB_eq (a b:Bs):ltB a b=Op.bytesLess a b:=by
 unfold ltB;cases h:Op.bytesLess a b with
 | true=>exact dT (bless_iff.1 h)
 | false=>exact dF fun e=>by rw[bless_iff.2 e]at h; cases h
theorem predN {i:Nat} (h:1<=i) (hi:i<9223372036854775807):qa4 E0 .sub 3 false true (.int .i64 (i:Int)) (.int .i64 1)=some (.int .i64 ((i-1:Nat):Int)):=by
 rw[binV_ii,intsV_sub,qbg (by omega) (by omega)]
 congr 2
 omega
theorem L24_spec {self:EV} {N:Nat} (ho:S.on=false) (nk:Ac->St->Rs) (ek:Nat->Ac->St->Rs) {v:V} {l:List Bs} (h:TL S v l) (hl:l.length<1000000) :
 ∀(q:List Bs) (i n:Nat),l.drop (i-1)=q->1<=i->q.length<n->
 L46_4 self N nk ek n v (.int .i64 (i:Int)) S=if qik q then ek 0 (fr 20 []) S else some (.ret (.bool false),S)
 | _,_,0,_,_,hn=>by omega
 | [],i,n+1,hi,h1,_=>by
  have:=qau hi;rw[L46_4_eq,h.len,oB];dsimp only;rw[qds,dF (by omega),oB,ifK_bool,cF];rfl
 | [a],i,n+1,hi,h1,_=>by
  have:(l.drop (i-1)).length=1:=by rw[hi]; rfl
  rw[List.length_drop]at this;rw[L46_4_eq,h.len,oB];dsimp only;rw[qds,dF (by omega),oB,ifK_bool,cF];rfl
 | a::b::q,i,n+1,hi,h1,hn=>by
  obtain⟨hlt,hc,hr',hm⟩:=qba hi;rw[show i-1+1=i by omega]at hr';obtain⟨hlt2,hc2,hr2,hm2⟩:=qba hr';have ih:=L24_spec (self:=self) (N:=N) ho nk ek h hl (b::q) (i+1) n (by rw[Nat.add_sub_cancel]; exact hr') (by omega) (by simpa using hn);obtain⟨p1,r1,o1,x1,x2⟩:=h.ldOn ho (show l[i-1]?=some a by rw[List.getElem?_eq_getElem hlt,hc]) [];obtain⟨p2,r2,o2,y1,y2⟩:=h.ldOn ho (show l[i]?=some b by rw[List.getElem?_eq_getElem hlt2,hc2]) [];rw[L46_4_eq,h.len,oB];dsimp only;rw[qds,dT hlt2,oB,ifK_bool,cT,predN h1 (by omega),oB,x1,oB,qdw,x2,oB];dsimp only;rw[y1,oB,qby,qdw,y2,oB];dsimp only;rw[geqStr,oB,endP_rd (rds_of ?_),qby,qjq ho,ifK_bool,qik,ltB_eq]
  . cases Op.bytesLess a b with
    | false=>rfl
    | true=>rw[Bool.not_true,cF,qc1 (by omega),oB,ih,Bool.true_and]
  . intro L hL e he
    simp only[List.mem_cons,List.not_mem_nil,or_false]at hL;rcases hL with rfl|rfl|rfl|rfl|rfl|rfl|rfl|rfl|rfl|rfl
    all_goals first
     | exact absurd he List.not_mem_nil
     | (rw[List.mem_singleton.1 he])
theorem f24_run (ho:S.on=false) (m:Nat) {v:V} {l:List Bs} (h:TL S v l) (hl:l.length<1000000):(ev E0 KD (m+1)).f 46 [v] S=some (.ret (.bool (qik l)),S):=rq24 (by
 show F46 (ev E0 KD m) qa1 v S=_;rw[F46_eq,show V.int .i64 1=.int .i64 ((1:Nat):Int)from rfl,L24_spec ho _ _ h hl l 1 qa1 rfl (lR _) (by unfold qa1; omega)];cases qik l with
 | false=>rfl
 | true=>rw[iP rfl,exB_same,R46_1_eq])
end
theorem big6:6<big:=by unfold big; decide
section
variable {S T U:St} {b N0:Nat} {d:DD} {n:Int} {last:Bs} {t:Tr V}
theorem must_yes (m:Nat) (p:V) (c:Int) (S:St):(ev E0 KD (m+1)).f 33 [p,.bool true,.int .i64 c] S=some (.ret (.tuple []),S):=rq14 (by
 show F33 (ev E0 KD m) qa1 p (.bool true) (.int .i64 c) S=_;rw[F33_eq]
 rfl)
theorem must_off (ho:S.on=false) (m:Nat) (c:Int) (q:Bool) (h:AgAt S b 58 6 t) (ht:t.get 4=some (.int .i64 n)):(ev E0 KD (m+1)).f 33 [.ptr b 0,.bool q,.int .i64 c] S=some (if q=true then .ret (.tuple [])else .pan (qmm c n),S):=by
 cases q with
 | true=>exact must_yes m _ c S
 | false=>
  exact rq14 (by
   show F33 (ev E0 KD m) qa1 (.ptr b 0) (.bool false) (.int .i64 c) S=_;rw[F33_eq,unV_not,oB,nF,ifK_bool,cT,nilP,oB,show faP 4 false 1 (.ptr b 0)=some (.ptr b 4)from rfl,oB,h.ld1 ho big6 (by decide) ht,oB];dsimp only;rw[build_53,oB]
   rfl)
def qip (p:Bs×Bs):Tr V:=Tr.ofListFrom .nil [sv p.1,sv p.2] 0
def VLo (S:St) (v:V) (l:List (Bs×Bs)) (N:Nat):Prop:=(l=[]/\v=.nilslice)\/∃r,v=.oslice r 0 l.length 2/\RowAt S r 41 2 (l.map qip)/\r<S.next/\N<=r/\0<l.length
theorem VLo.grew {W:Nat->Prop} {v:V} {l:List (Bs×Bs)} {N:Nat} (h:VLo S v l N) (g:Grew W S U) (hw:∀x,qk4 v=some x->¬W x):VLo U v l N:=by
 rcases h with h|⟨r,h0,h1,h2,h3⟩
 . exact .inl h
 . exact .inr ⟨r,h0,h1.grew h2 (hw r (by rw[h0]; rfl)) g,Nat.lt_of_lt_of_le h2 g.next,h3⟩
theorem TLo.grewW {W:Nat->Prop} {v:V} {l:List Bs} {N:Nat} (h:TLo S v l N) (g:Grew W S U) (hw:∀x,qk4 v=some x->¬W x):TLo U v l N:=by
 rcases h with h|⟨r,h0,h1,h2,h3⟩
 . exact .inl h
 . exact .inr ⟨r,h0,h1.grew h2 (hw r (by rw[h0]; rfl)) g,Nat.lt_of_lt_of_le h2 g.next,h3⟩
structure RdT (t:Tr V) (nm:Bs) (vI vE:V) (scr:Bs) (n:Int) (last:Bs):Prop where
 nm:t.get 0=some (sv nm)
 ins:t.get 1=some vI
 env:t.get 2=some vE
 scr:t.get 3=some (sv scr)
 n:t.get 4=some (.int .i64 n)
 last:t.get 5=some (sv last)
structure Rd (S:St) (b N0:Nat) (d:DD) (n:Int) (last:Bs) (vI vE:V):Prop where
 on:S.on=false
 lt:b<N0
 hi:N0<=S.next
 ex:∃t,AgAt S b 58 6 t/\RdT t d.nm vI vE d.scr n last
 ins:TLo S vI d.ins N0
 env:VLo S vE d.env N0
variable {vI vE:V}
theorem Rd.must (h:Rd S b N0 d n last vI vE) (m:Nat) (c:Int) (q:Bool):(ev E0 KD (m+1)).f 33 [.ptr b 0,.bool q,.int .i64 c] S=some (if q=true then .ret (.tuple [])else .pan (qmm c n),S):=by
 obtain⟨t,h1,h2⟩:=h.ex;exact must_off h.on m c q h1 h2.n
theorem setG (t:Tr V) (v:V) (i j:Nat) (h:j≠i):(t.set v i).get j=t.get j:=by rw[Tr.get_set,iN h]
theorem setS (t:Tr V) (v:V) (i:Nat):(t.set v i).get i=some v:=by rw[Tr.get_set,iP rfl]
end
end Go.Proofs.YtpgegoeghaplkaaGreatDoor.W
end
