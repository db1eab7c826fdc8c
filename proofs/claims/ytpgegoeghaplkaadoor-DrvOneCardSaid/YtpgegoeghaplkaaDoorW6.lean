/-
  WHAT THE FUNCTIONS COME TO: each is read by the evaluator,printed,and told as a function of data,part 6 of 9 (no condition).
-/
import Derived.Test.YtpgegoeghaplkaaDoorW5
namespace Go.Proofs.YtpgegoeghaplkaaDoor.W
open Go.Proofs.YtpgegoeghaplkaaDoor.Ev Go.RowKit
structure TextIn where
 s:Bs
 hs:s.length<1000000
noncomputable def kfText (g:Bs->V):KF:=qe2 (fun p:TextIn=>[sv p.s]) (fun p=>En.ret (g p.s))
theorem kfText_run (g:Bs->V) (s:Bs) (hs:s.length<1000000) (S:St):(kfText g).run [sv s] S=some (.ret (g s),S):=
 qh8 (enc:=fun p:TextIn=>[sv p.s]) (out:=fun p=>En.ret (g p.s)) (fun p q h=>by
  simp only[List.cons.injEq,and_true]at h
  rw[sv_inj h]) ⟨s,hs⟩ S
noncomputable def K3:=qhx K2 22 (kfText fun s=>.int .i64 (chkN s))
theorem ok3:KnOk Tryd.prog E0 K3:=ok2.add (qfs E0_ok ok2 fun p S ho=>by
 obtain⟨U,h1,h2⟩:=f22_run ho 0 p.s (by have:=p.hs; omega)
 exact⟨_,_,U,h1,h2,Fz.same (.int ..)⟩)
noncomputable def K4:=qhx K3 23 (kfText fun s=>.bool (qb9 s))
theorem ok4:KnOk Tryd.prog E0 K4:=ok3.add (qfs E0_ok ok2 fun p S ho=>by
 obtain⟨U,h1,h2⟩:=f23_run ho 0 p.s (by have:=p.hs; omega)
 exact⟨_,_,U,h1,h2,Fz.same (.bool ..)⟩)
noncomputable def K5:=qhx K4 52 kfTrim
theorem ok5:KnOk Tryd.prog E0 K5:=ok4.add (qfs E0_ok ok2 fun p S ho=>by
 obtain⟨U,h1,h2⟩:=f52_run ho 0 p.s p.hs
 exact⟨_,_,U,rd52 h1,h2,Fz.same (.str ..)⟩)
noncomputable def K6:=qhx K5 19 kfHex
theorem ok6:KnOk Tryd.prog E0 K6:=ok5.add (qfs E0_ok ok2 fun p S ho=>by
 obtain⟨U,h1,h2⟩:=f19_run ho 0 p.s p.hs
 exact⟨_,_,U,rd19 h1,h2,Fz.same (.str ..)⟩)
noncomputable def kfTrue:KF:=qe2 (fun _:Unit=>[]) (fun _=>En.ret (.bool true))
theorem kfTrue_run (S:St):kfTrue.run [] S=some (.ret (.bool true),S):=qh8 (enc:=fun _:Unit=>[]) (out:=fun _=>En.ret (.bool true)) (fun _ _ _=>rfl) () S
theorem kn5:KnWell Tryd.prog E0 5 kfTrue:=by
 refine⟨specKF_loc,fun w0 ρ s w args cargs e t hR hv hg=>?_⟩;unfold kfTrue qe2 at hg;simp only at hg;by_cases hx:∃x:Unit,([]:List V)=args
 . rw[dif_pos hx]at hg
   simp only[oS,pM]at hg;obtain⟨rfl,rfl⟩:=hg;obtain⟨_,rfl⟩:=hx;obtain⟨l⟩:=cargs;cases hv;exact(closed_walk E0_ok ok2 glob0 works_runs w).mono fun ce w' ⟨h1,h2⟩=>⟨ρ,.bool true,h1,Rho.le_refl ρ,.bool true,hR.grown h2⟩
 . rw[dif_neg hx]at hg; cases hg
noncomputable def KC:=qhx K6 5 kfTrue
theorem okC:KnOk Tryd.prog E0 KC:=ok6.add kn5
theorem trim_k (m:Nat) (s:Bs) (hs:s.length<1000000) (S:St):(ev E0 KC (m+1)).f 52 [sv s,sv hexL] S=some (.ret (sv (trimB s)),S):=by
 rw[qd4 (show KC 52=some kfTrim from rfl)];exact kfTrim_run s hs S
theorem eqI0 (i:Nat):qa8 E0 .eql 3 false true (.int .i64 (i:Int)) (.int .i64 0)=some (.bool (decide (i=0))):=by
 rw[binV_ii,intsV_eql]
 congr 2
 simp
theorem Grew.of_eq {S U:St} (hh:U.heap=S.heap) (hn:U.next=S.next) (hu:U.on=S.on):Grew (fun _=>False) S U:=⟨by omega,hu,fun x _ _=>by rw[hh]⟩
theorem rc14 {n:Nat} {args:List V} {s:St} {r:En×St} (e:qaz E0 (ev E0 KC n) qa1 Tryd.f14 B14 args s=some r):(ev E0 KC (n+1)).f 14 args s=some r:=qa5 (c:=C14) (d:=B14) (by kernel_rfl) (by kernel_rfl) (qa2 C14 _ (by kernel_rfl)) rfl e
theorem rc26 {n:Nat} {args:List V} {s:St} {r:En×St} (e:qaz E0 (ev E0 KC n) qa1 Tryd.f26 B26 args s=some r):(ev E0 KC (n+1)).f 26 args s=some r:=qa5 (c:=C26) (d:=B26) (by kernel_rfl) (by kernel_rfl) (qa2 C26 _ (by kernel_rfl)) rfl e
theorem rc48 {n:Nat} {args:List V} {s:St} {r:En×St} (e:qaz E0 (ev E0 KC n) qa1 Tryd.f48 B48 args s=some r):(ev E0 KC (n+1)).f 48 args s=some r:=qa5 (c:=C48) (d:=B48) (by kernel_rfl) (by kernel_rfl) (qa2 C48 _ (by kernel_rfl)) rfl e
theorem rc64 {n:Nat} {args:List V} {s:St} {r:En×St} (e:qaz E0 (ev E0 KC n) qa1 Tryd.f64 B64 args s=some r):(ev E0 KC (n+1)).f 64 args s=some r:=qa5 (c:=C64) (d:=B64) (by kernel_rfl) (by kernel_rfl) (qa2 C64 _ (by kernel_rfl)) rfl e
theorem shl4 {a:Nat} (h:a<16):qa8 E0 .shl 3 false true (.int .i64 (a:Int)) (.int .u64 4)=some (.int .i64 ((a*16:Nat):Int)):=by
 have:=all256 (p:=fun n=>!(Nat.blt n 16)||isInt .i64 (n*16) (qd8 .shl .i64 (.ofNat n) .u64 4)) (by decide +kernel) (n:=a) (by omega);simp only[blt_true.2 h,Bool.not_true,Bool.false_or]at this;exact qkc this
theorem or4 {a c:Nat} (h:a<16) (hc:c<16):qa8 E0 .or 3 false false (.int .i64 ((a*16:Nat):Int)) (.int .i64 (c:Int))=some (.int .i64 ((a*16+c:Nat):Int)):=by
 have:=all256 (p:=fun n=>isInt .i64 (n/16*16+n%16) (qd8 .or .i64 (.ofNat (n/16*16)) .i64 (.ofNat (n%16)))) (by decide +kernel) (n:=a*16+c) (by omega);simp only[show(a*16+c)/16=a by omega,show(a*16+c)%16=c by omega]at this;exact qkc this
theorem ixB_hex {c:UInt8} (h:isX c=true):ixB hexL c=(ixH c:Int):=by
 unfold isX hexL at h;simp only[List.contains_cons,Bool.or_eq_true,beq_iff_eq,List.contains_nil,Bool.false_eq_true,or_false]at h;rcases h with h|h|h|h|h|h|h|h|h|h|h|h|h|h|h|h<;>subst h<;>rfl
section
variable {S T U:St}
theorem mul2 {i:Nat} (h:i<100000):qa8 E0 .mul 3 true false (.int .i64 2) (.int .i64 (i:Int))=some (.int .i64 ((2*i:Nat):Int)):=by
 rw[binV_ii,intsV_mul,qcs (by omega) (by omega)]
 congr 2
theorem set_row {pre:Bs} {x:UInt8} {n:Nat}:((pre++List.replicate (n+1) 0).map qbq).set pre.length (qbq x)=((pre++[x])++List.replicate n 0).map qbq:=by
 rw[List.map_append,List.set_append,iN (by simp),lM,Nat.sub_self,List.replicate_succ,List.map_cons,List.set_cons_zero];simp
theorem L26_spec {m N:Nat} (s:Bs) (hs:s.length<=10000) (k:Nat) (hk:2*k=s.length) (nk:Ac->St->Rs) (ek:Nat->Ac->St->Rs) {r:Nat} :
 ∀(q:Bs) (i f:Nat) (pre:Bs) (S:St),S.on=false->s.drop (2*i)=q->q.all isX=true->pre.length=i->q.length=2*(k-i)->i<=k->q.length<f->RowAt S r 5 1 ((pre++List.replicate (k-i) 0).map qbq)->
 ∃U,L26_31 (ev E0 KC (m+2)) N nk ek f (sv s) (.slice r 0 k k) (.int .i64 (k:Int)) (.int .i64 (i:Int)) S=ek 0 (fr 53 [(5,.slice r 0 k k)]) U/\RowAt U r 5 1 ((pre++qhk q).map qbq)/\Grew (fun x=>x=r) S U
 | _,_,0,_,_,_,_,_,_,_,_,hf,_=>by omega
 | [],i,f+1,pre,S,ho,hi,_,hp,hq,hik,_,hR=>by
  have:k-i=0:=by simp at hq; omega
  refine⟨S,?_,by rw[this]at hR; simpa [qhk]using hR,Grew.refl _ _⟩;rw[L26_31_eq,qg5,dF (by omega),oB,ifK_bool,cF]
 | [a],i,f+1,pre,S,_,_,_,_,hq,_,_,_=>by simp at hq; omega
 | a::c::q,i,f+1,pre,S,ho,hi,hx,hp,hq,hik,hf,hR=>by
  obtain⟨hlt,ha,hr1,_⟩:=qby hi;obtain⟨hlt2,hc,hr2,_⟩:=qby hr1;rw[List.all_cons,List.all_cons,bA,bA]at hx;simp only[List.length_cons]at hq hf;have ik:i<k:=by omega
  obtain⟨a1,_⟩:=isX_ix a hx.1;obtain⟨c1,_⟩:=isX_ix c hx.2.1;obtain⟨n0,hn0⟩:∃n0,k-i=n0+1:=⟨k-i-1,by omega⟩
  rw[hn0]at hR;have hbyte:((UInt8.ofNat (ixH a*16+ixH c)).toNat)=ixH a*16+ixH c:=by rw[UInt8.toNat_ofNat']; omega
  have hlen:((pre++List.replicate (n0+1) (0:UInt8)).map qbq).length=k:=by simp; omega
  obtain⟨V1,k1,k2,k3,k4⟩:=hR.stK ho (i:=i) (by omega) (qbq (UInt8.ofNat (ixH a*16+ixH c)));rw[Nat.mul_one]at k1;have hset:=@set_row pre (UInt8.ofNat (ixH a*16+ixH c)) n0;rw[hp]at hset;rw[hset]at k2
  have hst:stP 1 (.ptr r i) (.int .u8 ((ixH a*16+ixH c:Nat):Int)) S=some (.tuple [],V1):=by
   show vu (stK S r i 1 (Ev.one (.int .u8 ((ixH a*16+ixH c:Nat):Int))))=_;have:Ev.one (.int .u8 ((ixH a*16+ixH c:Nat):Int))=qbq (UInt8.ofNat (ixH a*16+ixH c)):=by unfold qbq; rw[hbyte]; rfl
   rw[this,k1]; rfl
  obtain⟨l',hst'⟩:=stP_lg ho hst;obtain⟨X,r1,r2,r3,r4⟩:=qeh ho V1 l' [[],[],[],[],[],[],(S.lg []).log,[],[],[],[],[],[],(S.lg []).log,[],(S.lg []).log,[],l'];have gX:Grew (fun x=>x=r) S X:=k3.trans ((Grew.of_eq r2 r3 (r4.trans (k3.on.trans ho).symm)).mono fun _ _ h=>(h:False).elim);obtain⟨U,b1,b2,b3⟩:=L26_spec (m:=m) (N:=N) s hs k hk nk ek q (i+1) f (pre++[UInt8.ofNat (ixH a*16+ixH c)]) X r4 (by rw[show 2*(i+1)=2*i+1+1 by omega]; exact hr2) hx.2.2 (by rw[lAq,List.length_singleton]; omega) (by omega) (by omega) (by omega) (by rw[show k-(i+1)=n0 by omega]; exact k2.same r2);refine⟨U,?_,by rw[qhk]; simpa using b2,gX.trans b3⟩;have hix1:ixS (sv s) (.int .i64 ((2*i:Nat):Int))=some (.int .u8 (a.toNat:Int)):=by rw[qed s .i64 (2*i) hlt,ha]
  have hix2:ixS (sv s) (.int .i64 ((2*i+1:Nat):Int))=some (.int .u8 (c.toNat:Int)):=by rw[qed s .i64 (2*i+1) hlt2,hc]
  have f48:∀(x:UInt8) (Q:St),(ev E0 KC (m+2)).f 48 [sv [48,49,50,51,52,53,54,55,56,57,97,98,99,100,101,102],.int .u8 (x.toNat:Int)] Q=some (.ret (.int .i64 (ixB hexL x)),Q):=fun x Q=>rc48 (by
   show F48 (ev E0 KC (m+1)) qa1 (sv hexL) (.int .u8 (x.toNat:Int)) Q=_
   rw[F48_eq,rc64 (F64_spec (ev E0 KC m) qa1 hexL x Q),callP_ret])
  rw[L26_31_eq,qg5,dT ik,oB,ifK_bool,cT,mul2 (by omega),oB,hix1,oB,f48,qcl,ixB_hex hx.1,shl4 a1,oB,oB,qf5 (by omega),oB,hix2,oB,qfn,f48,qcl,ixB_hex hx.2.1,or4 a1 c1,oB,cvI_int,wrap_u8 (by omega) (by omega),oB];dsimp only;rw[ixP_sl r k i ik,oB,qfn,qfn,qax,hst',oB];dsimp only;rw[qf5 (by omega),oB];rw[show(V1.lg l').log=l' from rfl,r1,b1]
theorem make53 (ho:S.on=false) (k:Nat) (hk:k<=10000):∃U,qcx E0 53 (.int .i64 (k:Int)) (.int .i64 (k:Int)) S=some (.slice S.next 0 k k,U)/\RowAt U S.next 5 1 ((List.replicate k (0:UInt8)).map qbq)/\Grew (fun _=>False) S U/\U.next=S.next+1:=by
 have hr:=qiy (s:=S) (e:=5) (z:=1) (n:=k) (v:=.int .u8 0) ho (by decide) (by unfold big; omega);refine⟨qj9 S 5 1 (.int .u8 0) k,?_,?_,qd6 ho _ _,rfl⟩
 . unfold qcx
   rw[show qc0 E0 53=some (5,1,1) by kernel_rfl,oB,show qdt (.int .i64 (k:Int))=some k from rfl,oB,oB];unfold makeAtK;rw[show Nat.ble k k=true from ble_true.2 (lR _),blt_true.2 (show k*(1+1+1)<qac by unfold qac; omega),Bool.and_self,cT,show qf7 E0 5=some (.int .u8 0) by kernel_rfl,oB];rfl
 . rw[List.map_replicate]
   exact hr
theorem und53:und E0 53=some (.slice 5):=by kernel_rfl
def digB (s:Bs):Bool:=(decide (s≠[])&&decide (s.length%2=0))&&s.all isX
theorem valD_dig {s:Bs} (h:¬s=[45]):valD s=if digB s=true then some (qhk s)else none:=by
 unfold valD digB;rw[iN h];by_cases h1:s=[]
 . subst h1; rfl
 . by_cases h2:s.length%2=0
   . rw[dT h1,dT h2]
     simp[h1,h2]
   . rw[dF h2]
     simp[h2]
theorem rem2 (k:Nat):qa8 E0 .rem 3 false true (.int .i64 (k:Int)) (.int .i64 2)=some (.int .i64 ((k%2:Nat):Int)):=by
 rw[binV_ii,intsV_rem _ _ _ (by decide)];rfl
theorem quo2 {k:Nat} (h:k<100000):qa8 E0 .quo 3 false true (.int .i64 (k:Int)) (.int .i64 2)=some (.int .i64 ((k/2:Nat):Int)):=by
 rw[binV_ii,intsV_quo _ _ _ (by decide)];have:((k:Int).tdiv 2)=((k/2:Nat):Int):=rfl;rw[this,qcs (by omega) (by omega)]
theorem f26_run (ho:S.on=false) (m:Nat) (x0:V) (s:Bs) (hs:s.length<=10000) {w:En}
 (hT:∀m,(ev E0 KC (m+1)).f 14 [x0,.bool true,.int .i64 4] S=some (.ret (.tuple []),S)) (hm:valD s=none->∀m,(ev E0 KC (m+1)).f 14 [x0,.bool false,.int .i64 4] S=some (w,S)) (hw:∀k,qaa (some (w,S)) k=some (w,S)) :
 ∃U,F26 (ev E0 KC (m+2)) qa1 x0 (sv s) S=some (match valD s with|some v=>.ret (sv v)|none=>w,U)/\Grew (fun _=>False) S U:=by
 by_cases h45:s=[45]
 . subst h45
   exact⟨S,by rw[F26_eq]; rfl,Grew.refl _ _⟩
 . rw[valD_dig h45]at hm ⊢
   have e45:qa8 E0 .eql 9 false true (sv s) (sv [45])=some (.bool false):=by rw[eqStr]; simp[h45]
   rw[F26_eq,e45,oB,ifK_bool,cF,neStr,oB];by_cases h0:s=[]
   . subst h0
     refine⟨S,?_,Grew.refl _ _⟩;simp only[beq_self_eq_true,Bool.not_true,qah,oB,cF,pickV_bool,callP_ret];rw[hm rfl,hw];rfl
   . have hne:(!(s==([]:Bs)))=true:=by simp[h0]
     rw[hne];simp only[qah,oB,cT,pickV_bool,qa9,rem2];have hq:qa8 E0 .eql 3 false true (.int .i64 ((s.length%2:Nat):Int)) (.int .i64 0)=some (.bool (decide (s.length%2=0))):=eqI0 _;rw[hq];unfold digB;rw[dT h0,Bool.true_and];by_cases h2:s.length%2=0
     . rw[dT h2,Bool.true_and]
       simp only[qah,oB,cT,pickV_bool];show ∃U,(qaa ((ev E0 KC (m+1+1)).f 52 [sv s,sv hexL] S) _)=_/\_;rw[trim_k (m+1) s (by omega) S,callP_ret,eqStr,oB,trim_nil];cases hx:s.all isX with
       | false=>
        have hd:digB s=false:=by unfold digB; rw[hx,Bool.and_false]
        rw[hd]at hm;rw[hm rfl,hw,iN (by simp)];exact⟨S,rfl,Grew.refl _ _⟩
       | true=>
        rw[hT,callP_ret,iP rfl,quo2 (by omega),oB];obtain⟨S1,a1,a2,a3,a4⟩:=make53 ho (s.length/2) (by omega);rw[a1,oB];dsimp only;rw[show lnS (.slice S.next 0 (s.length/2) (s.length/2)) S1=some (.int .i64 ((s.length/2:Nat):Int),S1)from rfl,oB];dsimp only;obtain⟨U,b1,b2,b3⟩:=L26_spec (m:=m) (N:=qa1) s hs (s.length/2) (by omega) (R26_24 (ev E0 KC (m+2)) qa1 (qbw E0 (ev E0 KC (m+2)) Tryd.f26) qb2) (exB 0 (R26_24 (ev E0 KC (m+2)) qa1 (qbw E0 (ev E0 KC (m+2)) Tryd.f26) qb2) qb2) s 0 qa1 [] S1 (a3.on.trans ho) rfl hx rfl (by omega) (Nat.zero_le _) (by unfold qa1; omega) (by simpa using a2);rw[show V.int .i64 0=.int .i64 ((0:Nat):Int)from rfl,b1,exB_same,R26_24_eq];rw[List.nil_append]at b2;have hpl:=(qlz s.length s (lR _) h2 hx).2;have hcv:=convert_row (b3.on.trans (a3.on.trans ho)) und53 und5 und9 b2 (off:=0) (len:=s.length/2) (cap:=s.length/2) (by omega);rw[List.drop_zero,List.take_of_length_le (by omega)]at hcv;rw[hcv,oB];exact⟨U,rfl,a3.own (lR _) b3⟩
     . rw[dF h2,Bool.false_and]
       refine⟨S,?_,Grew.refl _ _⟩;simp only[qah,oB,cF,pickV_bool,callP_ret];have hd:digB s=false:=by unfold digB; rw[dF h2,Bool.and_false,Bool.false_and]
       rw[hd]at hm;rw[hm rfl,hw];rfl
end
noncomputable def faultT (c n:Int):Tr V:=Tr.ofListFrom .nil [.int .i64 c,.int .i64 n] 0
noncomputable def qdi (c n:Int):V:=.iface 36 (.agg 2 (faultT c n))
theorem build_36 (c n:Int):qdz E0 36 [(0,.int .i64 c),(1,.int .i64 n)]=some (.agg 2 (faultT c n)):=by kernel_rfl
theorem fault_under (N:Nat) (c n:Int):Under N (qdi c n):=.iface (.agg fun i v h=>by
 unfold faultT at h;rw[Tr.get_ofList]at h
 match i,h with
 | 0,h=>cases h; exact .int ..
 | 1,h=>cases h; exact .int ..
 | _+2,h=>simp at h)
structure DigIn where
 s:Bs
 hs:s.length<=10000
open Classical in
noncomputable def kfVal:KF:=⟨fun args s=>match args with
 | [.ptr b o,x]=>if h:o=0/\∃p:DigIn,sv p.s=x then(match valD h.2.choose.s with
  | some v=>some (.ret (sv v),s)
  | none=>(ld s b 4).bind fun p=>match p.1 with
   | .int .i64 n=>some (.pan (qdi 4 n),p.2)
   | _=>none)else none
 | _=>none⟩
theorem kfVal_locp (args:List V):LocP fun s=>kfVal.run args s:=by
 unfold kfVal;dsimp only;split
 . split
   . split
     . exact LocP.ret _
     . refine Loc.bind (loc_ld _ _) fun v=>?_
       dsimp only;split
       . exact LocP.ret _
       . exact Loc.none
   . exact Loc.none
 . exact Loc.none
theorem kfVal_run (b:Nat) (s:Bs) (hs:s.length<=10000) (S:St):kfVal.run [.ptr b 0,sv s] S=match valD s with
 | some v=>some (.ret (sv v),S)
 | none=>(ld S b 4).bind fun p=>match p.1 with
  | .int .i64 n=>some (.pan (qdi 4 n),p.2)
  | _=>none:=by
 have h:(0=0)/\∃p:DigIn,sv p.s=sv s:=⟨rfl,⟨s,hs⟩,rfl⟩
 unfold kfVal;dsimp only;rw[dif_pos h];have:h.2.choose.s=s:=sv_inj h.2.choose_spec;rw[this]
theorem ld_off {S T:St} {b i:Nat} {v:V} (h:ld S b i=some (v,T)):ld S.off b i=some (v,S.off)/\T.heap=S.heap/\T.next=S.next:=by
 unfold ld at h ⊢;show(match S.heap.get b with|some (.cells _ esz n _ c)=>_|_=>_)=_/\_;split at h
 . rename_i e esz n ro c hb
   cases hq:(Nat.blt i (esz*n)&&Nat.blt (esz*n) big)with
   | false=>rw[hq]at h; cases h
   | true=>
    rw[hq,cT,oI]at h;obtain⟨t,h1,h2⟩:=h;rw[oI]at h2;obtain⟨u,h2,h3⟩:=h2;simp only[oS,pM]at h3;obtain⟨rfl,rfl⟩:=h3;rw[hb];dsimp only;rw[hq,cT,h1,oB,h2,oB,qau rfl];refine⟨rfl,?_,?_⟩<;>(unfold St.note; cases S.on<;>rfl)
 . cases h
theorem mustC_yes (m:Nat) (p:V) (c:Int) (S:St):(ev E0 KC (m+1)).f 14 [p,.bool true,.int .i64 c] S=some (.ret (.tuple []),S):=rc14 (by
 show F14 (ev E0 KC m) qa1 p (.bool true) (.int .i64 c) S=_;rw[F14_eq]
 rfl)
theorem mustC_no {S:St} {b:Nat} {n:Int} (m:Nat) (c:Int) (h:ld S b 4=some (.int .i64 n,S)):(ev E0 KC (m+1)).f 14 [.ptr b 0,.bool false,.int .i64 c] S=some (.pan (qdi c n),S):=rc14 (by
 show F14 (ev E0 KC m) qa1 (.ptr b 0) (.bool false) (.int .i64 c) S=_;rw[F14_eq,unV_not,oB,nF,ifK_bool,cT,nilP,oB,show faP 4 false 1 (.ptr b 0)=some (.ptr b 4)from rfl,oB,show ld1 (.ptr b 4) S=some (.int .i64 n,S)from h,oB];dsimp only;rw[build_36,oB]
 rfl)
theorem kn26:KnWell Tryd.prog E0 26 kfVal:=by
 refine knWell_of E0_ok okC kfVal_locp fun args s e t hg=>?_;have hg0:=hg;unfold kfVal at hg;dsimp only at hg;split at hg
 . rename_i b o x
   split at hg
   . rename_i h
     obtain⟨rfl,p,rfl⟩:=h;rw[kfVal_run b p.s p.hs s]at hg0;cases hv:valD p.s with
     | some v=>
      rw[hv]at hg0;simp only[oS,pM]at hg0;obtain⟨rfl,rfl⟩:=hg0;obtain⟨U,h1,h2⟩:=f26_run (S:=s.off) rfl 0 (.ptr b 0) p.s p.hs (w:=.pan .nilptr) (fun m=>mustC_yes m _ _ _) (fun e=>by rw[hv]at e; cases e) (fun k=>rfl);rw[hv]at h1;refine⟨_,_,U,rc26 h1,⟨rfl,h2.next,fun b o hb hlt=>?_,fun b o hb=>.inl hb⟩,Fz.same (.str ..)⟩;rw[h2.keep b hlt (fun h=>h)];exact hb
     | none=>
      rw[hv]at hg0;simp only[oI]at hg0;obtain⟨⟨u,s2⟩,q1,q2⟩:=hg0;dsimp only at q2;split at q2
      . rename_i n
        simp only[oS,pM]at q2;obtain⟨rfl,rfl⟩:=q2;obtain⟨k1,k2,k3⟩:=ld_off q1;obtain⟨U,h1,h2⟩:=f26_run (S:=s.off) rfl 0 (.ptr b 0) p.s p.hs (w:=.pan (qdi 4 n)) (fun m=>mustC_yes m _ _ _) (fun _ m=>mustC_no m 4 k1) (fun k=>rfl);rw[hv]at h1;refine⟨_,_,U,rc26 h1,⟨k3,h2.next,fun b o hb hlt=>?_,fun b o hb=>.inl (by rw[<- k2]; exact hb)⟩,Fz.same (fault_under _ _ _)⟩;rw[h2.keep b hlt (fun h=>h)];rw[k2]at hb;exact hb
      . cases q2
   . cases hg
 . cases hg
noncomputable def KD:=qhx KC 26 kfVal
theorem okD:KnOk Tryd.prog E0 KD:=okC.add kn26
section
variable {S:St}
theorem f5_run (m:Nat) (S:St):(ev E0 KD (m+1)).f 5 [] S=some (.ret (.bool true),S):=by rw[qd4 (show KD 5=some kfTrue from rfl)]; exact kfTrue_run S
theorem check_k (m:Nat) (s:Bs) (hs:s.length<1000000) (S:St):(ev E0 KD (m+1)).f 22 [sv s] S=some (.ret (.int .i64 (chkN s)),S):=by
 rw[qd4 (show KD 22=some (kfText fun s=>.int .i64 (chkN s))from rfl)];exact kfText_run _ s hs S
theorem path_k (m:Nat) (s:Bs) (hs:s.length<1000000) (S:St):(ev E0 KD (m+1)).f 23 [sv s] S=some (.ret (.bool (qb9 s)),S):=by
 rw[qd4 (show KD 23=some (kfText fun s=>.bool (qb9 s))from rfl)];exact kfText_run (fun s=>.bool (qb9 s)) s hs S
theorem hex_k (m:Nat) (s:Bs) (hs:s.length<=1000) (S:St):(ev E0 KD (m+1)).f 19 [sv s] S=some (.ret (sv (hexD s)),S):=by
 rw[qd4 (show KD 19=some kfHex from rfl)];exact kfHex_run s hs S
end
theorem rq3 {n:Nat} {args:List V} {s:St} {r:En×St} (e:qaz E0 (ev E0 KD n) qa1 Tryd.f3 B3 args s=some r):(ev E0 KD (n+1)).f 3 args s=some r:=qa5 (c:=C3) (d:=B3) (by kernel_rfl) (by kernel_rfl) (qa2 C3 _ (by kernel_rfl)) rfl e
theorem rq4 {n:Nat} {args:List V} {s:St} {r:En×St} (e:qaz E0 (ev E0 KD n) qa1 Tryd.f4 B4 args s=some r):(ev E0 KD (n+1)).f 4 args s=some r:=qa5 (c:=C4) (d:=B4) (by kernel_rfl) (by kernel_rfl) (qa2 C4 _ (by kernel_rfl)) rfl e
theorem rq6 {n:Nat} {args:List V} {s:St} {r:En×St} (e:qaz E0 (ev E0 KD n) qa1 Tryd.f6 B6 args s=some r):(ev E0 KD (n+1)).f 6 args s=some r:=qa5 (c:=C6) (d:=B6) (by kernel_rfl) (by kernel_rfl) (qa2 C6 _ (by kernel_rfl)) rfl e
theorem rq8 {n:Nat} {args:List V} {s:St} {r:En×St} (e:qaz E0 (ev E0 KD n) qa1 Tryd.f8 B8 args s=some r):(ev E0 KD (n+1)).f 8 args s=some r:=qa5 (c:=C8) (d:=B8) (by kernel_rfl) (by kernel_rfl) (qa2 C8 _ (by kernel_rfl)) rfl e
theorem rq9 {n:Nat} {args:List V} {s:St} {r:En×St} (e:qaz E0 (ev E0 KD n) qa1 Tryd.f9 B9 args s=some r):(ev E0 KD (n+1)).f 9 args s=some r:=qa5 (c:=C9) (d:=B9) (by kernel_rfl) (by kernel_rfl) (qa2 C9 _ (by kernel_rfl)) rfl e
theorem rq10 {n:Nat} {args:List V} {s:St} {r:En×St} (e:qaz E0 (ev E0 KD n) qa1 Tryd.f10 B10 args s=some r):(ev E0 KD (n+1)).f 10 args s=some r:=qa5 (c:=C10) (d:=B10) (by kernel_rfl) (by kernel_rfl) (qa2 C10 _ (by kernel_rfl)) rfl e
theorem rq11 {n:Nat} {args:List V} {s:St} {r:En×St} (e:qaz E0 (ev E0 KD n) qa1 Tryd.f11 B11 args s=some r):(ev E0 KD (n+1)).f 11 args s=some r:=qa5 (c:=C11) (d:=B11) (by kernel_rfl) (by kernel_rfl) (qa2 C11 _ (by kernel_rfl)) rfl e
theorem rq12 {n:Nat} {args:List V} {s:St} {r:En×St} (e:qaz E0 (ev E0 KD n) qa1 Tryd.f12 B12 args s=some r):(ev E0 KD (n+1)).f 12 args s=some r:=qa5 (c:=C12) (d:=B12) (by kernel_rfl) (by kernel_rfl) (qa2 C12 _ (by kernel_rfl)) rfl e
theorem rq14 {n:Nat} {args:List V} {s:St} {r:En×St} (e:qaz E0 (ev E0 KD n) qa1 Tryd.f14 B14 args s=some r):(ev E0 KD (n+1)).f 14 args s=some r:=qa5 (c:=C14) (d:=B14) (by kernel_rfl) (by kernel_rfl) (qa2 C14 _ (by kernel_rfl)) rfl e
theorem rq15 {n:Nat} {args:List V} {s:St} {r:En×St} (e:qaz E0 (ev E0 KD n) qa1 Tryd.f15 B15 args s=some r):(ev E0 KD (n+1)).f 15 args s=some r:=qa5 (c:=C15) (d:=B15) (by kernel_rfl) (by kernel_rfl) (qa2 C15 _ (by kernel_rfl)) rfl e
theorem rq16 {n:Nat} {args:List V} {s:St} {r:En×St} (e:qaz E0 (ev E0 KD n) qa1 Tryd.f16 B16 args s=some r):(ev E0 KD (n+1)).f 16 args s=some r:=qa5 (c:=C16) (d:=B16) (by kernel_rfl) (by kernel_rfl) (qa2 C16 _ (by kernel_rfl)) rfl e
theorem rq18 {n:Nat} {args:List V} {s:St} {r:En×St} (e:qaz E0 (ev E0 KD n) qa1 Tryd.f18 B18 args s=some r):(ev E0 KD (n+1)).f 18 args s=some r:=qa5 (c:=C18) (d:=B18) (by kernel_rfl) (by kernel_rfl) (qa2 C18 _ (by kernel_rfl)) rfl e
theorem rq21 {n:Nat} {args:List V} {s:St} {r:En×St} (e:qaz E0 (ev E0 KD n) qa1 Tryd.f21 B21 args s=some r):(ev E0 KD (n+1)).f 21 args s=some r:=qa5 (c:=C21) (d:=B21) (by kernel_rfl) (by kernel_rfl) (qa2 C21 _ (by kernel_rfl)) rfl e
theorem rq24 {n:Nat} {args:List V} {s:St} {r:En×St} (e:qaz E0 (ev E0 KD n) qa1 Tryd.f24 B24 args s=some r):(ev E0 KD (n+1)).f 24 args s=some r:=qa5 (c:=C24) (d:=B24) (by kernel_rfl) (by kernel_rfl) (qa2 C24 _ (by kernel_rfl)) rfl e
theorem rq25 {n:Nat} {args:List V} {s:St} {r:En×St} (e:qaz E0 (ev E0 KD n) qa1 Tryd.f25 B25 args s=some r):(ev E0 KD (n+1)).f 25 args s=some r:=qa5 (c:=C25) (d:=B25) (by kernel_rfl) (by kernel_rfl) (qa2 C25 _ (by kernel_rfl)) rfl e
theorem rq27 {n:Nat} {args:List V} {s:St} {r:En×St} (e:qaz E0 (ev E0 KD n) qa1 Tryd.f27 B27 args s=some r):(ev E0 KD (n+1)).f 27 args s=some r:=qa5 (c:=C27) (d:=B27) (by kernel_rfl) (by kernel_rfl) (qa2 C27 _ (by kernel_rfl)) rfl e
theorem rq29 {n:Nat} {args:List V} {s:St} {r:En×St} (e:qaz E0 (ev E0 KD n) qa1 Tryd.f29 B29 args s=some r):(ev E0 KD (n+1)).f 29 args s=some r:=qa5 (c:=C29) (d:=B29) (by kernel_rfl) (by kernel_rfl) (qa2 C29 _ (by kernel_rfl)) rfl e
theorem rq30 {n:Nat} {args:List V} {s:St} {r:En×St} (e:qaz E0 (ev E0 KD n) qa1 Tryd.f30 B30 args s=some r):(ev E0 KD (n+1)).f 30 args s=some r:=qa5 (c:=C30) (d:=B30) (by kernel_rfl) (by kernel_rfl) (qa2 C30 _ (by kernel_rfl)) rfl e
theorem rq31 {n:Nat} {args:List V} {s:St} {r:En×St} (e:qaz E0 (ev E0 KD n) qa1 Tryd.f31 B31 args s=some r):(ev E0 KD (n+1)).f 31 args s=some r:=qa5 (c:=C31) (d:=B31) (by kernel_rfl) (by kernel_rfl) (qa2 C31 _ (by kernel_rfl)) rfl e
theorem rq32 {n:Nat} {args:List V} {s:St} {r:En×St} (e:qaz E0 (ev E0 KD n) qa1 Tryd.f32 B32 args s=some r):(ev E0 KD (n+1)).f 32 args s=some r:=qa5 (c:=C32) (d:=B32) (by kernel_rfl) (by kernel_rfl) (qa2 C32 _ (by kernel_rfl)) rfl e
theorem rq33 {n:Nat} {args:List V} {s:St} {r:En×St} (e:qaz E0 (ev E0 KD n) qa1 Tryd.f33 B33 args s=some r):(ev E0 KD (n+1)).f 33 args s=some r:=qa5 (c:=C33) (d:=B33) (by kernel_rfl) (by kernel_rfl) (qa2 C33 _ (by kernel_rfl)) rfl e
theorem rq34 {n:Nat} {args:List V} {s:St} {r:En×St} (e:qaz E0 (ev E0 KD n) qa1 Tryd.f34 B34 args s=some r):(ev E0 KD (n+1)).f 34 args s=some r:=qa5 (c:=C34) (d:=B34) (by kernel_rfl) (by kernel_rfl) (qa2 C34 _ (by kernel_rfl)) rfl e
theorem rq35 {n:Nat} {args:List V} {s:St} {r:En×St} (e:qaz E0 (ev E0 KD n) qa1 Tryd.f35 B35 args s=some r):(ev E0 KD (n+1)).f 35 args s=some r:=qa5 (c:=C35) (d:=B35) (by kernel_rfl) (by kernel_rfl) (qa2 C35 _ (by kernel_rfl)) rfl e
theorem rq36 {n:Nat} {args:List V} {s:St} {r:En×St} (e:qaz E0 (ev E0 KD n) qa1 Tryd.f36 B36 args s=some r):(ev E0 KD (n+1)).f 36 args s=some r:=qa5 (c:=C36) (d:=B36) (by kernel_rfl) (by kernel_rfl) (qa2 C36 _ (by kernel_rfl)) rfl e
theorem rq37 {n:Nat} {args:List V} {s:St} {r:En×St} (e:qaz E0 (ev E0 KD n) qa1 Tryd.f37 B37 args s=some r):(ev E0 KD (n+1)).f 37 args s=some r:=qa5 (c:=C37) (d:=B37) (by kernel_rfl) (by kernel_rfl) (qa2 C37 _ (by kernel_rfl)) rfl e
theorem rq38 {n:Nat} {args:List V} {s:St} {r:En×St} (e:qaz E0 (ev E0 KD n) qa1 Tryd.f38 B38 args s=some r):(ev E0 KD (n+1)).f 38 args s=some r:=qa5 (c:=C38) (d:=B38) (by kernel_rfl) (by kernel_rfl) (qa2 C38 _ (by kernel_rfl)) rfl e
theorem rq39 {n:Nat} {args:List V} {s:St} {r:En×St} (e:qaz E0 (ev E0 KD n) qa1 Tryd.f39 B39 args s=some r):(ev E0 KD (n+1)).f 39 args s=some r:=qa5 (c:=C39) (d:=B39) (by kernel_rfl) (by kernel_rfl) (qa2 C39 _ (by kernel_rfl)) rfl e
theorem rq41 {n:Nat} {args:List V} {s:St} {r:En×St} (e:qaz E0 (ev E0 KD n) qa1 Tryd.f41 B41 args s=some r):(ev E0 KD (n+1)).f 41 args s=some r:=qa5 (c:=C41) (d:=B41) (by kernel_rfl) (by kernel_rfl) (qa2 C41 _ (by kernel_rfl)) rfl e
theorem rq43 {n:Nat} {args:List V} {s:St} {r:En×St} (e:qaz E0 (ev E0 KD n) qa1 Tryd.f43 B43 args s=some r):(ev E0 KD (n+1)).f 43 args s=some r:=qa5 (c:=C43) (d:=B43) (by kernel_rfl) (by kernel_rfl) (qa2 C43 _ (by kernel_rfl)) rfl e
theorem rq51 {n:Nat} {args:List V} {s:St} {r:En×St} (e:qaz E0 (ev E0 KD n) qa1 Tryd.f51 B51 args s=some r):(ev E0 KD (n+1)).f 51 args s=some r:=qa5 (c:=C51) (d:=B51) (by kernel_rfl) (by kernel_rfl) (qa2 C51 _ (by kernel_rfl)) rfl e
theorem rq57 {n:Nat} {args:List V} {s:St} {r:En×St} (e:qaz E0 (ev E0 KD n) qa1 Tryd.f57 B57 args s=some r):(ev E0 KD (n+1)).f 57 args s=some r:=qa5 (c:=C57) (d:=B57) (by kernel_rfl) (by kernel_rfl) (qa2 C57 _ (by kernel_rfl)) rfl e
theorem rq58 {n:Nat} {args:List V} {s:St} {r:En×St} (e:qaz E0 (ev E0 KD n) qa1 Tryd.f58 B58 args s=some r):(ev E0 KD (n+1)).f 58 args s=some r:=qa5 (c:=C58) (d:=B58) (by kernel_rfl) (by kernel_rfl) (qa2 C58 _ (by kernel_rfl)) rfl e
theorem rq59 {n:Nat} {args:List V} {s:St} {r:En×St} (e:qaz E0 (ev E0 KD n) qa1 Tryd.f59 B59 args s=some r):(ev E0 KD (n+1)).f 59 args s=some r:=qa5 (c:=C59) (d:=B59) (by kernel_rfl) (by kernel_rfl) (qa2 C59 _ (by kernel_rfl)) rfl e
theorem rq60 {n:Nat} {args:List V} {s:St} {r:En×St} (e:qaz E0 (ev E0 KD n) qa1 Tryd.f60 B60 args s=some r):(ev E0 KD (n+1)).f 60 args s=some r:=qa5 (c:=C60) (d:=B60) (by kernel_rfl) (by kernel_rfl) (qa2 C60 _ (by kernel_rfl)) rfl e
theorem rq62 {n:Nat} {args:List V} {s:St} {r:En×St} (e:qaz E0 (ev E0 KD n) qa1 Tryd.f62 B62 args s=some r):(ev E0 KD (n+1)).f 62 args s=some r:=qa5 (c:=C62) (d:=B62) (by kernel_rfl) (by kernel_rfl) (qa2 C62 _ (by kernel_rfl)) rfl e
theorem rq63 {n:Nat} {args:List V} {s:St} {r:En×St} (e:qaz E0 (ev E0 KD n) qa1 Tryd.f63 B63 args s=some r):(ev E0 KD (n+1)).f 63 args s=some r:=qa5 (c:=C63) (d:=B63) (by kernel_rfl) (by kernel_rfl) (qa2 C63 _ (by kernel_rfl)) rfl e
theorem rq79 {n:Nat} {args:List V} {s:St} {r:En×St} (e:qaz E0 (ev E0 KD n) qa1 Tryd.f79 B79 args s=some r):(ev E0 KD (n+1)).f 79 args s=some r:=qa5 (c:=C79) (d:=B79) (by kernel_rfl) (by kernel_rfl) (qa2 C79 _ (by kernel_rfl)) rfl e
section
variable {S T U:St}
def fstB (c:UInt8):Bool:=c==95||(inB 97 122 c||inB 65 90 c)
def varL:Bool->Bs->Bool
 | _,[]=>true
 | b,c::s=>(fstB c||(!b&&inB 48 57 c))&&varL false s
def qfz (s:Bs):Bool:=varL true s&&(((decide (s≠[])&&decide (s.length<=56))&&!(s==[111,117,116]))&&!(s==[110,97,109,101]))
theorem u8eql (a:Nat) (ha:a<256) (c:UInt8):qa8 E0 .eql 5 false true (.int .u8 (c.toNat:Int)) (.int .u8 (a:Int))=some (.bool (c==UInt8.ofNat a)):=by
 rw[binV_ii,intsV_eql]
 congr 2
 by_cases h:c=UInt8.ofNat a
 . rw[h,UInt8.toNat_ofNat',show a%2^8=a by omega]; simp
 . have:¬((c.toNat:Int)=(a:Int)):=fun e=>h (UInt8.toNat_inj.1 (by rw[UInt8.toNat_ofNat']; omega))
   rw[dF this];exact(beq_false_of_ne h).symm
theorem u8lss (a:Nat) (c:UInt8):qa8 E0 .lss 5 false true (.int .u8 (c.toNat:Int)) (.int .u8 (a:Int))=some (.bool (decide (c.toNat<a))):=by
 rw[binV_ii,intsV_lss]
 congr 2
 simp
theorem u8gtr (a:Nat) (c:UInt8):qa8 E0 .gtr 5 false true (.int .u8 (c.toNat:Int)) (.int .u8 (a:Int))=some (.bool (decide (a<c.toNat))):=by
 rw[binV_ii,intsV_gtr]
 congr 2
 simp
theorem f51_run (m:Nat) (c:UInt8) (S:St):(ev E0 KD (m+1)).f 51 [.int .u8 (c.toNat:Int)] S=some (.ret (.bool (fstB c)),S):=rq51 (by
 show F51 (ev E0 KD m) qa1 (.int .u8 (c.toNat:Int)) S=_;have e1:qa8 E0 .eql 5 false true (.int .u8 (c.toNat:Int)) (.int .u8 95)=some (.bool (c==95)):=u8eql 95 (by decide) c;have e2:qa8 E0 .geq 5 false true (.int .u8 (c.toNat:Int)) (.int .u8 97)=some (.bool (decide (97<=c.toNat))):=u8geq 97 c;have e3:qa8 E0 .leq 5 false true (.int .u8 (c.toNat:Int)) (.int .u8 122)=some (.bool (decide (c.toNat<=122))):=u8leq 122 c;have e4:qa8 E0 .geq 5 false true (.int .u8 (c.toNat:Int)) (.int .u8 65)=some (.bool (decide (65<=c.toNat))):=u8geq 65 c;have e5:qa8 E0 .leq 5 false true (.int .u8 (c.toNat:Int)) (.int .u8 90)=some (.bool (decide (c.toNat<=90))):=u8leq 90 c;rw[F51_eq,e1];unfold fstB inB;cases c==95 with
 | true=>rfl
 | false=>
  simp only[oB,qb0,qah,nF,cT,e2,pickV_bool];cases decide (97<=c.toNat)with
  | false=>
   simp only[oB,qb0,qah,nF,cT,cF,e4,pickV_bool];cases decide (65<=c.toNat)with
   | false=>rfl
   | true=>simp only[oB,qb0,qah,nF,cT,cF,e5,pickV_bool]; rfl
  | true=>
   simp only[oB,qb0,qah,nF,cT,cF,e3,pickV_bool];cases decide (c.toNat<=122)with
   | true=>rfl
   | false=>
    simp only[oB,qb0,qah,nF,cT,cF,e4,pickV_bool];cases decide (65<=c.toNat)with
    | false=>rfl
    | true=>simp only[oB,qb0,qah,nF,cT,cF,e5,pickV_bool]; rfl)
theorem body51:E0.ext.get 51=none/\qat E0 51=true:=⟨by kernel_rfl,by kernel_rfl⟩
theorem L25_spec {m N:Nat} (s:Bs) (hs:s.length<9223372036854775807) (nk:Ac->St->Rs) (ek:Nat->Ac->St->Rs) (S:St) :
 ∀(q:Bs) (i n:Nat),s.drop i=q->q.length<n->
 L25_22 (ev E0 KD (m+1)) N nk ek n (sv s) (.fn (.func 51) [] []) (.int .i64 (s.length:Int)) (.int .i64 (i:Int)) S=if varL (decide (i=0)) q then ek 0 (fr 48 [(0,sv s)]) S else some (.ret (.bool false),S)
 | _,_,0,_,hn=>by omega
 | [],i,n+1,hi,_=>by
  rw[L25_22_eq,qg5,dF (Nat.not_lt.2 (qbl hi)),oB,ifK_bool,cF];rfl
 | c::q,i,n+1,hi,hn=>by
  obtain⟨hlt,hc,hr',hm⟩:=qby hi;have ih:=L25_spec (m:=m) (N:=N) s hs nk ek S q (i+1) n hr' (by simpa using hn);rw[dF (by omega:¬i+1=0)]at ih;have e1:qa8 E0 .lss 5 false true (.int .u8 (c.toNat:Int)) (.int .u8 48)=some (.bool (decide (c.toNat<48))):=u8lss 48 c;have e2:qa8 E0 .gtr 5 false true (.int .u8 (c.toNat:Int)) (.int .u8 57)=some (.bool (decide (57<c.toNat))):=u8gtr 57 c;have hx:ixS (sv s) (.int .i64 (i:Int))=some (.int .u8 (c.toNat:Int)):=by rw[qed s .i64 i hlt,hc]
  rw[L25_22_eq,qg5,dT hlt,oB,ifK_bool,cT,hx,oB,qb5 body51.1 body51.2];show(qaa ((ev E0 KD (m+1)).f 51 [.int .u8 (c.toNat:Int)] S) _)=_;rw[f51_run,callP_ret,unV_not,oB,varL];cases fstB c with
  | true=>
   simp only[oB,qb0,qah,nF,Bool.not_true,cT,cF,pickV_bool,qd7,ifK_bool];rw[qf5 (by omega),oB,ih,Bool.true_or,Bool.true_and]
  | false=>
   simp only[oB,qb0,qah,nF,Bool.not_true,cT,cF,pickV_bool,qd7,ifK_bool,eqI0,Bool.false_or];by_cases h0:i=0
   . rw[dT h0]
     simp only[oB,qb0,qah,nF,Bool.not_true,cT,cF,pickV_bool,qd7,ifK_bool,Bool.false_and];rfl
   . rw[dF h0]
     simp only[oB,qb0,qah,nF,Bool.not_true,cT,cF,pickV_bool,qd7,ifK_bool,hx,e1,Bool.true_and];unfold inB;by_cases h1:c.toNat<48
     . rw[dT h1,dF (by omega:¬48<=c.toNat)]
       simp only[oB,qb0,qah,nF,Bool.not_true,cT,cF,pickV_bool,qd7,ifK_bool,Bool.false_and];rfl
     . rw[dF h1,dT (by omega:48<=c.toNat)]
       simp only[oB,qb0,qah,nF,Bool.not_true,cT,cF,pickV_bool,qd7,ifK_bool,Bool.true_and,hx,e2];by_cases h2:57<c.toNat
       . rw[dT h2,dF (by omega:¬c.toNat<=57)]
         rfl
       . rw[dF h2,dT (by omega:c.toNat<=57),cF,qf5 (by omega),oB,ih,Bool.true_and]
theorem f25_run (m:Nat) (s:Bs) (hs:s.length<9223372036854775807) (S:St):(ev E0 KD (m+2)).f 25 [sv s] S=some (.ret (.bool (qfz s)),S):=rq25 (by
 show F25 (ev E0 KD (m+1)) qa1 (sv s) S=_;have h0:=L25_spec (m:=m) (N:=qa1) s hs (R25_2 (ev E0 KD (m+1)) qa1 (qbw E0 (ev E0 KD (m+1)) Tryd.f25) qb2) (exB 0 (R25_2 (ev E0 KD (m+1)) qa1 (qbw E0 (ev E0 KD (m+1)) Tryd.f25) qb2) qb2) S s 0 qa1 rfl (by unfold qa1; omega);rw[F25_eq,qa9,oB];dsimp only;rw[show V.int .i64 0=.int .i64 ((0:Nat):Int)from rfl,h0];unfold qfz;rw[show decide (0=0)=true from rfl];cases varL true s with
 | false=>rfl
 | true=>
  rw[iP rfl,exB_same,R25_2_eq,neStr,oB,Bool.true_and];cases s with
  | nil=>rfl
  | cons c s=>
   have hne:(!((c::s)==([]:Bs)))=true:=rfl;rw[hne,dT (by simp:c::s≠[])]
   have hle:qa8 E0 .leq 3 false true (.int .i64 ((c::s).length:Int)) (.int .i64 56)=some (.bool (decide ((c::s).length<=56))):=by
    rw[binV_ii,intsV_leq]
    congr 2
    simp;omega
   simp only[oB,qb0,qah,cT,pickV_bool,qa9,hle,neStr,Bool.true_and];cases decide ((c::s).length<=56)with
   | false=>rfl
   | true=>
    simp only[oB,qb0,qah,cT,pickV_bool,qa9,hle,neStr,Bool.true_and];cases(!((c::s)==[111,117,116]))with
    | false=>rfl
    | true=>simp only[oB,qb0,qah,cT,pickV_bool,neStr,Bool.true_and])
theorem ltB_eq (a b:Bs):ltB a b=Op.bytesLess a b:=by
 unfold ltB;cases h:Op.bytesLess a b with
 | true=>exact dT (bless_iff.1 h)
 | false=>exact dF fun e=>by rw[bless_iff.2 e]at h; cases h
theorem predN {i:Nat} (h:1<=i) (hi:i<9223372036854775807):qa8 E0 .sub 3 false true (.int .i64 (i:Int)) (.int .i64 1)=some (.int .i64 ((i-1:Nat):Int)):=by
 rw[binV_ii,intsV_sub,qcs (by omega) (by omega)]
 congr 2
 omega
theorem L24_spec {self:EV} {N:Nat} (ho:S.on=false) (nk:Ac->St->Rs) (ek:Nat->Ac->St->Rs) {v:V} {l:List Bs} (h:TL S v l) (hl:l.length<1000000) :
 ∀(q:List Bs) (i n:Nat),l.drop (i-1)=q->1<=i->q.length<n->
 L24_4 self N nk ek n v (.int .i64 (i:Int)) S=if qek q then ek 0 (fr 20 []) S else some (.ret (.bool false),S)
 | _,_,0,_,_,hn=>by omega
 | [],i,n+1,hi,h1,_=>by
  have:=qbl hi;rw[L24_4_eq,h.len,oB];dsimp only;rw[qg5,dF (by omega),oB,ifK_bool,cF];rfl
 | [a],i,n+1,hi,h1,_=>by
  have:(l.drop (i-1)).length=1:=by rw[hi]; rfl
  rw[List.length_drop]at this;rw[L24_4_eq,h.len,oB];dsimp only;rw[qg5,dF (by omega),oB,ifK_bool,cF];rfl
 | a::b::q,i,n+1,hi,h1,hn=>by
  obtain⟨hlt,hc,hr',hm⟩:=qby hi;rw[show i-1+1=i by omega]at hr';obtain⟨hlt2,hc2,hr2,hm2⟩:=qby hr';have ih:=L24_spec (self:=self) (N:=N) ho nk ek h hl (b::q) (i+1) n (by rw[Nat.add_sub_cancel]; exact hr') (by omega) (by simpa using hn);obtain⟨p1,r1,o1,x1,x2⟩:=h.ldOn ho (show l[i-1]?=some a by rw[List.getElem?_eq_getElem hlt,hc]) [];obtain⟨p2,r2,o2,y1,y2⟩:=h.ldOn ho (show l[i]?=some b by rw[List.getElem?_eq_getElem hlt2,hc2]) [];rw[L24_4_eq,h.len,oB];dsimp only;rw[qg5,dT hlt2,oB,ifK_bool,cT,predN h1 (by omega),oB,x1,oB,qax,x2,oB];dsimp only;rw[y1,oB,qab,qax,y2,oB];dsimp only;rw[geqStr,oB,endP_rd (rds_of ?_),qab,qff ho,ifK_bool,qek,ltB_eq]
  . cases Op.bytesLess a b with
    | false=>rfl
    | true=>rw[Bool.not_true,cF,qf5 (by omega),oB,ih,Bool.true_and]
  . intro L hL e he
    simp only[List.mem_cons,List.not_mem_nil,or_false]at hL;rcases hL with rfl|rfl|rfl|rfl|rfl|rfl|rfl|rfl|rfl|rfl
    all_goals first
     | exact absurd he List.not_mem_nil
     | (rw[List.mem_singleton.1 he])
theorem f24_run (ho:S.on=false) (m:Nat) {v:V} {l:List Bs} (h:TL S v l) (hl:l.length<1000000):(ev E0 KD (m+1)).f 24 [v] S=some (.ret (.bool (qek l)),S):=rq24 (by
 show F24 (ev E0 KD m) qa1 v S=_;rw[F24_eq,show V.int .i64 1=.int .i64 ((1:Nat):Int)from rfl,L24_spec ho _ _ h hl l 1 qa1 rfl (lR _) (by unfold qa1; omega)];cases qek l with
 | false=>rfl
 | true=>rw[iP rfl,exB_same,R24_1_eq])
theorem L63_spec {self:EV} {N:Nat} (ho:S.on=false) (nk:Ac->St->Rs) (ek:Nat->Ac->St->Rs) {v:V} {l:List Bs} (h:TL S v l) (hl:l.length<1000000) (x:Bs) :
 ∀(q:List Bs) (i n:Nat),l.drop i=q->q.length<n->
 ∃j:Nat,L63_6 self N nk ek n v (sv x) (.int .i64 (l.length:Int)) (.int .i64 (i:Int)) S=if q.contains x then some (.ret (.int .i64 (j:Int)),S)else ek 0 (fr 19 []) S
 | _,_,0,_,hn=>by omega
 | [],i,n+1,hi,_=>⟨0,by
  rw[L63_6_eq,qg5,dF (Nat.not_lt.2 (qbl hi)),oB,ifK_bool,cF]
  rfl⟩
 | a::q,i,n+1,hi,hn=>by
  obtain⟨hlt,hc,hr',hm⟩:=qby hi;obtain⟨j,ih⟩:=L63_spec (self:=self) (N:=N) ho nk ek h hl x q (i+1) n hr' (by simpa using hn);obtain⟨p,x1,x2⟩:=h.ld ho (show l[i]?=some a by rw[List.getElem?_eq_getElem hlt,hc]);rw[L63_6_eq,qg5,dT hlt,oB,ifK_bool,cT,x1,oB,x2,oB];dsimp only;rw[eqStr,oB,ifK_bool,List.contains_cons];cases x==a with
  | true=>exact⟨i,rfl⟩
  | false=>exact⟨j,by rw[cF,qf5 (by omega),oB,ih,Bool.false_or]⟩
theorem f43_run (ho:S.on=false) (m:Nat) {v:V} {l:List Bs} (h:TL S v l) (hl:l.length<1000000) (x:Bs):(ev E0 KD (m+2)).f 43 [v,sv x] S=some (.ret (.bool (l.contains x)),S):=rq43 (by
 show F43 (ev E0 KD (m+1)) qa1 v (sv x) S=_;obtain⟨j,hj⟩:=L63_spec (self:=ev E0 KD m) (N:=qa1) ho (R63_1 (ev E0 KD m) qa1 (qbw E0 (ev E0 KD m) Tryd.f63) qb2) (exB 0 (R63_1 (ev E0 KD m) qa1 (qbw E0 (ev E0 KD m) Tryd.f63) qb2) qb2) h hl x l 0 qa1 rfl (by unfold qa1; omega)
 have h63:(ev E0 KD (m+1)).f 63 [v,sv x] S=some (.ret (.int .i64 (if l.contains x then(j:Int)else -1)),S):=rq63 (by
  show F63 (ev E0 KD m) qa1 v (sv x) S=_;rw[F63_eq,h.len,oB];dsimp only;rw[show V.int .i64 0=.int .i64 ((0:Nat):Int)from rfl,hj];cases l.contains x with
  | true=>rfl
  | false=>rw[iN (by simp),exB_same,R63_1_eq]; rfl)
 rw[F43_eq,h63,callP_ret,binV_ii,intsV_geq];cases l.contains x with
 | true=>rw[iP rfl,oB,dT (by omega)]
 | false=>rfl)
theorem cut_some:∀(s:Bs) (j:Nat),s.findIdx? (fun x=>x==10)=some j->j<s.length/\qgz s=(s.take j,some (s.drop (j+1)))
 | [],j,h=>by cases h
 | c::s,j,h=>by
  rw[List.findIdx?_cons]at h;rw[qgz];by_cases hc:c=10
  . rw[beq_iff_eq.2 hc]at h
    cases h;rw[iP hc];exact⟨by simp,rfl⟩
  . rw[beq_false_of_ne hc]at h
    simp only[Bool.false_eq_true,if_false]at h;obtain⟨k,hk,rfl⟩:=Option.map_eq_some_iff.1 h;obtain⟨h1,h2⟩:=cut_some s k hk;rw[iN hc,h2];exact⟨by simp; omega,rfl⟩
theorem cut_none:∀(s:Bs),s.findIdx? (fun x=>x==10)=none->qgz s=(s,none)
 | [],h=>rfl
 | c::s,h=>by
  rw[List.findIdx?_cons]at h;rw[qgz];by_cases hc:c=10
  . rw[beq_iff_eq.2 hc]at h
    cases h
  . rw[beq_false_of_ne hc]at h
    simp only[Bool.false_eq_true,if_false]at h;rw[iN hc,cut_none s (by simpa using h)]
theorem f12_run (ho:S.on=false) (m:Nat) (s:Bs) (hs:s.length<1000000):(ev E0 KD (m+4)).f 12 [sv s,sv [10]] S=some (.ret (.tuple [sv (qgz s).1,sv ((qgz s).2.getD []),.bool (qgz s).2.isSome]),S):=rq12 (by
 have h27:(ev E0 KD (m+3)).f 27 [sv s,sv [10]] S=some (.ret (.tuple [sv (qgz s).1,sv ((qgz s).2.getD []),.bool (qgz s).2.isSome]),S):=rq27 (by
  show F27 (ev E0 KD (m+2)) qa1 (sv s) (sv [10]) S=_;rw[F27_eq,f53_run 10 rfl rfl m s S,callP_ret];unfold ixB;cases hf:s.findIdx? (fun x=>x==10)with
  | none=>
   rw[cut_none s hf];rfl
  | some j=>
   obtain⟨h1,h2⟩:=cut_some s j hf;rw[h2];show((qa8 E0 .geq 3 false true (.int .i64 (j:Int)) (.int .i64 0)).bind _)=_;rw[binV_ii,intsV_geq,show decide ((j:Int)≥0)=true by simp,oB,ifK_bool,cT,qe4 und9 s (qeb .i64 (show j<=s.length by omega)) (by omega),oB];dsimp only;rw[qa9,oB];dsimp only;rw[binV_ii,intsV_add,show(([10]:Bs).length:Int)=1 from rfl,qej (by omega),oB,qe4 und9 s (qg9 .i64 (show j+1<=s.length by omega)) (lR _),oB];dsimp only;rw[List.drop_zero,Nat.sub_zero,show List.take (s.length-(j+1)) (s.drop (j+1))=s.drop (j+1)from List.take_of_length_le (by rw[List.length_drop]; exact lR _),qfk (by rfl)];simp only[qfn,qff ho]
   rfl)
 show F12 (ev E0 KD (m+3)) qa1 (sv s) (sv [10]) S=_
 rw[F12_eq,h27,callP_ret,ex0,oB,ex1,oB,ex2,oB])
theorem spl_eq:∀s:Bs,qbk s=qk1 s
 | []=>rfl
 | c::s=>by
  rw[qbk,qk1,spl_eq s];rfl
theorem f13_run (ho:S.on=false) (m:Nat) (s:Bs) (hs:s.length<=10000) :
 ∃U,(ev E0 KD (m+5)).f 13 [sv s,sv [32]] S=some (.ret (.slice S.next 0 (qk1 s).length (qk1 s).length),U)/\TL U (.slice S.next 0 (qk1 s).length (qk1 s).length) (qk1 s)/\Grew (fun _=>False) S U:=by
 obtain⟨U,a1,a2,a3,a4⟩:=split11 (K:=KD) rfl rfl rfl rfl rfl rfl m s hs S ho;rw[spl_eq]at a1 a2;exact⟨U,a1,TL.sli a2 a4,a3⟩
end
theorem big6:6<big:=by unfold big; decide
theorem fault_neq (c n:Int):qa8 E0 .neq 20 false true (qdi c n) .niliface=some (.bool true):=by kernel_rfl
theorem fault_is (c n:Int):qks E0 36 true (qdi c n)=some (.tuple [.agg 2 (faultT c n),.bool true]):=by kernel_rfl
section
variable {S T U:St} {b N0:Nat} {d:DD} {n:Int} {last:Bs} {t:Tr V}
theorem must_yes (m:Nat) (p:V) (c:Int) (S:St):(ev E0 KD (m+1)).f 14 [p,.bool true,.int .i64 c] S=some (.ret (.tuple []),S):=rq14 (by
 show F14 (ev E0 KD m) qa1 p (.bool true) (.int .i64 c) S=_;rw[F14_eq]
 rfl)
theorem must_no (m:Nat) (c:Int) {p:V} {L:List LE} (hp:faP 4 false 1 (.ptr b 0)=some p) (h:ld1 p (S.lg L)=some (.int .i64 n,T)):(ev E0 KD (m+1)).f 14 [.ptr b 0,.bool false,.int .i64 c] (S.lg L)=some (.pan (qdi c n),T):=rq14 (by
 show F14 (ev E0 KD m) qa1 (.ptr b 0) (.bool false) (.int .i64 c) (S.lg L)=_;rw[F14_eq,unV_not,oB,nF,ifK_bool,cT,nilP,oB,hp,oB,h,oB];dsimp only;rw[build_36,oB]
 rfl)
theorem qkg (ho:S.on=false) (m:Nat) (c:Int) (q:Bool) (h:AgAt S b 41 6 t) (ht:t.get 4=some (.int .i64 n)):(ev E0 KD (m+1)).f 14 [.ptr b 0,.bool q,.int .i64 c] S=some (if q=true then .ret (.tuple [])else .pan (qdi c n),S):=by
 cases q with
 | true=>exact must_yes m _ c S
 | false=>
  exact rq14 (by
   show F14 (ev E0 KD m) qa1 (.ptr b 0) (.bool false) (.int .i64 c) S=_;rw[F14_eq,unV_not,oB,nF,ifK_bool,cT,nilP,oB,show faP 4 false 1 (.ptr b 0)=some (.ptr b 4)from rfl,oB,h.ld1 ho big6 (by decide) ht,oB];dsimp only;rw[build_36,oB]
   rfl)
theorem qd2 {q:Bool} {v:V} {k:V->St->Rs}:qaa (some (if q=true then En.ret (.tuple [])else .pan v,S)) k=if q=true then k (.tuple []) S else some (.pan v,S):=by cases q<;>rfl
noncomputable def qi8 (p:Bs×Bs):Tr V:=Tr.ofListFrom .nil [sv p.1,sv p.2] 0
def VLo (S:St) (v:V) (l:List (Bs×Bs)) (N:Nat):Prop:=(l=[]/\v=.nilslice)\/∃r,v=.oslice r 0 l.length 2/\RowAt S r 50 2 (l.map qi8)/\r<S.next/\N<=r/\0<l.length
theorem VLo.grew {W:Nat->Prop} {v:V} {l:List (Bs×Bs)} {N:Nat} (h:VLo S v l N) (g:Grew W S U) (hw:∀x,qc5 v=some x->¬W x):VLo U v l N:=by
 rcases h with h|⟨r,h0,h1,h2,h3⟩
 . exact .inl h
 . exact .inr ⟨r,h0,h1.grew h2 (hw r (by rw[h0]; rfl)) g,Nat.lt_of_lt_of_le h2 g.next,h3⟩
theorem TLo.grewW {W:Nat->Prop} {v:V} {l:List Bs} {N:Nat} (h:TLo S v l N) (g:Grew W S U) (hw:∀x,qc5 v=some x->¬W x):TLo U v l N:=by
 rcases h with h|⟨r,h0,h1,h2,h3⟩
 . exact .inl h
 . exact .inr ⟨r,h0,h1.grew h2 (hw r (by rw[h0]; rfl)) g,Nat.lt_of_lt_of_le h2 g.next,h3⟩
structure RdT (t:Tr V) (nm:Bs) (vI vE:V) (scr:Bs) (n:Int) (last:Bs):Prop where
 nm:t.get 0=some (sv nm)
 ins:t.get 1=some vI
 env:t.get 2=some vE
 scr:t.get 3=some (sv scr)
 n:t.get 4=some (.int .i64 n)
 last:t.get 5=some (sv last)
structure Rd (S:St) (b N0:Nat) (d:DD) (n:Int) (last:Bs) (vI vE:V):Prop where
 on:S.on=false
 lt:b<N0
 hi:N0<=S.next
 ex:∃t,AgAt S b 41 6 t/\RdT t d.nm vI vE d.scr n last
 ins:TLo S vI d.ins N0
 env:VLo S vE d.env N0
variable {vI vE:V}
def Own (b:Nat) (vI vE:V) (x:Nat):Prop:=x=b\/qc5 vI=some x\/qc5 vE=some x
theorem Rd.own_lt (h:Rd S b N0 d n last vI vE) {x:Nat} (hx:Own b vI vE x):x<S.next:=by
 have h1:=h.lt; have h2:=h.hi;rcases hx with rfl|hx|hx
 . omega
 . rcases h.ins with⟨_,rfl⟩|⟨r,rfl,_,h3,_⟩
   . cases hx
   . cases hx; exact h3
 . rcases h.env with⟨_,rfl⟩|⟨r,rfl,_,h3,_⟩
   . cases hx
   . cases hx; exact h3
theorem Rd.grew {W:Nat->Prop} (h:Rd S b N0 d n last vI vE) (g:Grew W S U) (hw:∀x,Own b vI vE x->¬W x):Rd U b N0 d n last vI vE:=by
 obtain⟨t,h1,h2⟩:=h.ex;have:=h.lt; have:=h.hi;exact⟨g.on.trans h.on,h.lt,Nat.le_trans h.hi g.next,⟨t,h1.grew (by omega) (hw b (.inl rfl)) g,h2⟩,h.ins.grewW g fun x hx=>hw x (.inr (.inl hx)),h.env.grew g fun x hx=>hw x (.inr (.inr hx))⟩
theorem Rd.grew0 (h:Rd S b N0 d n last vI vE) (g:Grew (fun _=>False) S U):Rd U b N0 d n last vI vE:=h.grew g fun _ _ h=>h
theorem Rd.must (h:Rd S b N0 d n last vI vE) (m:Nat) (c:Int) (q:Bool):(ev E0 KD (m+1)).f 14 [.ptr b 0,.bool q,.int .i64 c] S=some (if q=true then .ret (.tuple [])else .pan (qdi c n),S):=by
 obtain⟨t,h1,h2⟩:=h.ex;exact qkg h.on m c q h1 h2.n
theorem Rd.put (h:Rd S b N0 d n last vI vE) (i:Nat) (hi:i<6) (v:V) (hv:OneV v) {d':DD} {n':Int} {last':Bs} {vI' vE':V} (hI:TLo S vI' d'.ins N0) (hE:VLo S vE' d'.env N0) (ht:∀t,RdT t d.nm vI vE d.scr n last->RdT (t.set v i) d'.nm vI' vE' d'.scr n' last') :
 ∃U,stP 1 (.ptr b i) v S=some (.tuple [],U)/\Rd U b N0 d' n' last' vI' vE'/\Grew (fun x=>x=b) S U:=by
 obtain⟨t,h1,h2⟩:=h.ex;have h3:=h.lt; have h4:=h.hi;obtain⟨U,k1,k2,k3,k4⟩:=h1.st1 h.on big6 (by decide) (i:=i) hi v hv.size hv.cells hv.tup
 have hlt:∀x,qc5 vI'=some x->¬x=b:=fun x hx e=>by
  rcases hI with⟨_,rfl⟩|⟨r,rfl,_,_,h6,_⟩
  . cases hx
  . cases hx; omega
 have hlt2:∀x,qc5 vE'=some x->¬x=b:=fun x hx e=>by
  rcases hE with⟨_,rfl⟩|⟨r,rfl,_,_,h6,_⟩
  . cases hx
  . cases hx; omega
 exact⟨U,k1,⟨k3.on.trans h.on,h.lt,by omega,⟨_,k2,ht t h2⟩,hI.grewW k3 hlt,hE.grew k3 hlt2⟩,k3⟩
theorem qfy (t:Tr V) (v:V) (i j:Nat) (h:j≠i):(t.set v i).get j=t.get j:=by rw[Tr.get_set,iN h]
theorem setS (t:Tr V) (v:V) (i:Nat):(t.set v i).get i=some v:=by rw[Tr.get_set,iP rfl]
def aftB (lasts:List Bs) (last:Bs) (w:List Bs) (k:Nat):Bool:=lasts.contains last&&decide (w.length=k)
theorem f21_run (h:Rd S b N0 d n last vI vE) (m:Nat) {vw vl:V} {w lasts:List Bs} (hw:TL S vw w) (hl:TL S vl lasts) (lw:w.length<1000000) (ll:lasts.length<1000000) (k:Nat):(ev E0 KD (m+3)).f 21 [.ptr b 0,vw,.int .i64 (k:Int),vl] S=some (if aftB lasts last w k=true then .ret (.tuple [])else .pan (qdi 4 n),S):=rq21 (by
 show F21 (ev E0 KD (m+2)) qa1 (.ptr b 0) vw (.int .i64 (k:Int)) vl S=_;obtain⟨t,h1,h2⟩:=h.ex
 have hx:qa8 E0 .eql 3 false false (.int .i64 (w.length:Int)) (.int .i64 (k:Int))=some (.bool (decide (w.length=k))):=by
  rw[binV_ii,intsV_eql]
  congr 2
  simp;omega
 rw[F21_eq,nilP,oB,show faP 5 false 1 (.ptr b 0)=some (.ptr b 5)from rfl,oB,h1.ld1 h.on big6 (by decide) h2.last,oB];dsimp only;rw[f43_run h.on m hl ll last,callP_ret];unfold aftB;cases lasts.contains last with
 | false=>
  simp only[qah,oB,cF,pickV_bool,Bool.false_and];rw[h.must (m+1) 4 false];rfl
 | true=>
  simp only[qah,oB,cT,pickV_bool,Bool.true_and,hw.len,hx];rw[h.must (m+1) 4,qd2]
  cases decide (w.length=k)<;>rfl)
theorem lay_run (ho:S.on=false) (l:List Bs) (hl:l.length<1000):∃U,bsP 9 1 l.length (Ev.one (sv [])) (numb 0 (l.map sv)) S=some (.slice S.next 0 l.length l.length,U)/\TL U (.slice S.next 0 l.length l.length) l/\Grew (fun _=>False) S U:=by
 obtain⟨U,h1,h2,h3,h4⟩:=qel ho 9 (Ev.one (sv [])) (l.map sv) (fun v hv=>by
  obtain⟨a,_,rfl⟩:=List.mem_map.1 hv
  exact qef a) (by rw[lM]; unfold big; omega)
 rw[lM]at h1;refine⟨U,h1 none,TL.sli (by rw[List.map_map]at h2; exact h2) (by omega),h3⟩
end
def qd0 (t:Nat):Bs:=match t with
 | 0=>[]
 | 1=>wDrv
 | 2=>wIn
 | 3=>wEnv
 | _=>wRun
theorem last0 {t:Nat} (h:t<=4):[([]:Bs)].contains (qd0 t)=decide (t=0):=by
 match t,h with
 | 0,_|1,_|2,_|3,_|4,_=>rfl
theorem last12 {t:Nat} (h:t<=4):[wDrv,wIn].contains (qd0 t)=decide (t=1\/t=2):=by
 match t,h with
 | 0,_|1,_|2,_|3,_|4,_=>rfl
theorem last13 {t:Nat} (h:t<=4):[wDrv,wIn,wEnv].contains (qd0 t)=decide (t=1\/t=2\/t=3):=by
 match t,h with
 | 0,_|1,_|2,_|3,_|4,_=>rfl
theorem sayDrv1 (chk:Bs->Bool) (t:Nat) (d:DD) (a:Bs):qm5 chk t d [a]=if t=0/\chk a=true then some (1,{d with nm:=a})else none:=rfl
theorem sayIn1 (isPath:Bs->Bool) (t:Nat) (d:DD) (a:Bs):sayIn isPath t d [a]=if(t=1\/t=2)/\isPath a=true/\qek (d.ins++[a])=true/\d.ins.length<8 then some (2,{d with ins:=d.ins++[a]})else none:=rfl
theorem sayEnv2 (variable_:Bs->Bool) (t:Nat) (d:DD) (a b:Bs):qm6 variable_ t d [a,b]=if(t=1\/t=2\/t=3)/\variable_ a=true/\(∀y,d.env.getLast?=some y->ltB y.1 a=true)then
 (valD b).bind fun v=>if v.length<=200/\d.env.length<16 then some (3,{d with env:=d.env++[(a,v)]})else none
 else none:=rfl
section
variable {S T U:St} {b N0:Nat} {d:DD} {n:Int} {vI vE:V} {t:Nat}
def Meth (S:St) (b N0:Nat) (n:Int) (vw:V) (vI vE:V) (t:Nat) (m f:Nat) (r:Option (Nat×DD)):Prop:=match r with
 | some p=>∃U vI' vE',(ev E0 KD m).f f [.ptr b 0,vw] S=some (.ret (.tuple []),U)/\Rd U b N0 p.2 n (qd0 t) vI' vE'/\Grew (Own b vI vE) S U
 | none=>∃U c,(ev E0 KD m).f f [.ptr b 0,vw] S=some (.pan (qdi c n),U)/\Grew (Own b vI vE) S U
theorem chk_eql (s:Bs):qa8 E0 .eql 31 false true (.int .i64 (chkN s)) (.int .i64 0)=some (.bool (qfj s)):=by
 have hu:qa8 E0 .eql 31 false true (.int .i64 (chkN s)) (.int .i64 0)=some (.bool (decide (chkN s=0))):=by
  rw[binV_ii,intsV_eql]
 rw[hu];rfl
theorem aft_len1 {w0:Bs} {ws:List Bs} (h:(w0::ws).length=2):∃a,ws=[a]:=by
 match ws,h with
 | [a],_=>exact⟨a,rfl⟩
 | [],h=>cases h
 | _::_::_,h=>simp at h
theorem w_ix {vw:V} {w:List Bs} (h:TL S vw w) (ho:S.on=false) {i:Nat} {a:Bs} (ha:w[i]?=some a):∃p,ixP 1 vw (.int .i64 (i:Int))=some p/\ld1 p S=some (sv a,S):=h.ld ho ha
theorem f8_run (h:Rd S b N0 d n (qd0 t) vI vE) (ht:t<=4) (m:Nat) {vw:V} {w0:Bs} {ws:List Bs} (hw:TL S vw (w0::ws)) (lw:(w0::ws).length<100000) (hs:∀a∈ws,a.length<1000000):Meth S b N0 n vw vI vE t (m+4) 8 (qm5 qfj t d ws):=by
 obtain⟨S1,a1,a2,a3⟩:=lay_run h.on [([]:Bs)] (by decide);have hw1:=hw.grew0 a3;have h1:=h.grew0 a3;have e21:=f21_run h1 m hw1 a2 (by omega) (by decide) 2;have hF:=F8_eq (ev E0 KD (m+3)) qa1 (.ptr b 0) vw S;rw[show bsP 9 1 1 (Ev.one (sv [])) [(0,(sv []))] S=some (_,S1)from a1,oB]at hF;dsimp only at hF;rw[show V.int .i64 2=.int .i64 ((2:Nat):Int)from rfl,e21,qd2]at hF;have hq:aftB [([]:Bs)] (qd0 t) (w0::ws) 2=(decide (t=0)&&decide ((w0::ws).length=2)):=by unfold aftB; rw[last0 ht]
 rw[hq]at hF;by_cases hc:t=0/\(w0::ws).length=2
 . obtain⟨rfl,h2⟩:=hc
   obtain⟨a,rfl⟩:=aft_len1 h2;rw[dT rfl,dT h2,Bool.and_self,iP rfl]at hF;obtain⟨p,p1,p2⟩:=w_ix hw1 h1.on (i:=1) (a:=a) rfl;rw[show V.int .i64 1=.int .i64 ((1:Nat):Int)from rfl,p1,oB,p2,oB]at hF;dsimp only at hF;rw[check_k (m+2) a (hs a (by simp)) S1,callP_ret,chk_eql,oB,h1.must (m+2) 4 (qfj a),qd2]at hF;rw[sayDrv1];by_cases hk:qfj a=true
   . rw[iP ⟨rfl,hk⟩]
     rw[iP hk,oB,p2,oB]at hF;dsimp only at hF;rw[nilP,oB,show faP 0 true 4 (.ptr b 0)=some (.ptr b 0)from rfl,oB,show faP 0 false 1 (.ptr b 0)=some (.ptr b 0)from rfl,oB]at hF;obtain⟨U,k1,k2,k3⟩:=h1.put 0 (by decide) (sv a) (qef a) (d':={d with nm:=a}) (n':=n) (last':=qd0 0) (vI':=vI) (vE':=vE) h1.ins h1.env (fun t ht=>⟨setS _ _ _,(qfy _ _ _ _ (by decide)).trans ht.ins,(qfy _ _ _ _ (by decide)).trans ht.env,(qfy _ _ _ _ (by decide)).trans ht.scr,(qfy _ _ _ _ (by decide)).trans ht.n,(qfy _ _ _ _ (by decide)).trans ht.last⟩);rw[k1,oB]at hF;exact⟨U,vI,vE,rq8 hF,k2,(a3.mono fun _ _ h=>(h:False).elim).trans (k3.mono fun x _ e=>.inl e)⟩
   . rw[iN (fun e=>hk e.2)]
     rw[iN hk]at hF;exact⟨S1,4,rq8 hF,a3.mono fun _ _ h=>(h:False).elim⟩
 . have hno:qm5 qfj t d ws=none:=by
    unfold qm5;split
    . rw[iN fun e=>hc ⟨e.1,rfl⟩]
    . rfl
   rw[hno]
   have hb:(decide (t=0)&&decide ((w0::ws).length=2))=false:=by
    by_cases h0:t=0
    . rw[dF (fun e=>hc ⟨h0,e⟩),Bool.and_false]
    . rw[dF h0]; rfl
   rw[hb,iN (by simp)]at hF;exact⟨S1,4,rq8 hF,a3.mono fun _ _ h=>(h:False).elim⟩
theorem f11_run (h:Rd S b N0 d n (qd0 t) vI vE) (ht:t<=4) (m:Nat) {vw:V} {w0:Bs} {ws:List Bs} (hw:TL S vw (w0::ws)) (lw:(w0::ws).length<100000):Meth S b N0 n vw vI vE t (m+4) 11 (sayRun t d ws):=by
 obtain⟨S1,a1,a2,a3⟩:=lay_run h.on [wDrv,wIn,wEnv] (by decide);have hw1:=hw.grew0 a3;have h1:=h.grew0 a3;have e21:=f21_run h1 m hw1 a2 (by omega) (by decide) 1;have hF:=F11_eq (ev E0 KD (m+3)) qa1 (.ptr b 0) vw S;rw[show bsP 9 1 3 (Ev.one (sv [])) [(0,(sv [100,114,118])),(1,(sv [105,110])),(2,(sv [101,110,118]))] S=some (_,S1)from a1,oB]at hF;dsimp only at hF;rw[show V.int .i64 1=.int .i64 ((1:Nat):Int)from rfl,e21,qd2]at hF;have hq:aftB [wDrv,wIn,wEnv] (qd0 t) (w0::ws) 1=(decide (t=1\/t=2\/t=3)&&decide ((w0::ws).length=1)):=by unfold aftB; rw[last13 ht]
 rw[hq]at hF;unfold sayRun;cases ws with
 | nil=>
  by_cases hc:t=1\/t=2\/t=3
  . rw[iP hc]
    rw[dT hc,show decide ([w0].length=1)=true from rfl,Bool.and_self,iP rfl]at hF;exact⟨S1,vI,vE,rq11 hF,h1,a3.mono fun _ _ h=>(h:False).elim⟩
  . rw[iN hc]
    rw[dF hc,Bool.false_and,iN (by simp)]at hF;exact⟨S1,4,rq11 hF,a3.mono fun _ _ h=>(h:False).elim⟩
 | cons a ws=>
  rw[dF (by simp:¬(w0::a::ws).length=1),Bool.and_false,iN (by simp)]at hF;exact⟨S1,4,rq11 hF,a3.mono fun _ _ h=>(h:False).elim⟩
end
end Go.Proofs.YtpgegoeghaplkaaDoor.W
