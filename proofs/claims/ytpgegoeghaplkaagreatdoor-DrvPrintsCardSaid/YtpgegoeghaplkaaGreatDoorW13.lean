/-
  WHAT THE FUNCTIONS COME TO: each is read by the evaluator,printed,and told as a function of data,part 13 of 15 (no condition).
-/
import Derived.Test.YtpgegoeghaplkaaGreatDoorW12
namespace Go.Proofs.YtpgegoeghaplkaaGreatDoor.W
open Go.Proofs.YtpgegoeghaplkaaGreatDoor.Ev Go.RowKit
theorem qjx {S:St} (ho:S.on=false):zz S S=S:=by
 unfold zz;cases S;simp only at ho;subst ho;rfl
theorem qnj (x:UInt32) {n:Nat} (hn:n<=32):rot x (32-n)=ror x n:=by
 unfold rot ror;rw[show 32-(32-n)=n by omega,UInt32.or_comm]
theorem turns_two (x:UInt32) {a b:Nat} (ha:a<=32) (hb:b<=32):qny x [a,b]=ror x a ^^^ ror x b:=by
 unfold qny;simp only[List.foldl_cons,List.foldl_nil,UInt32.zero_xor,qnj x ha,qnj x hb]
theorem qnz (x:UInt32) {a b c:Nat} (ha:a<=32) (hb:b<=32) (hc:c<=32):qny x [a,b,c]=ror x a ^^^ ror x b ^^^ ror x c:=by
 unfold qny;simp only[List.foldl_cons,List.foldl_nil,UInt32.zero_xor,qnj x ha,qnj x hb,qnj x hc]
section
variable {S T U:St} {K:FuncId->Option KF} {f:Nat->UInt32}
theorem turned_on (hK:RefK K) (m:Nat) (x:UInt32) {n:Nat} (hn:n<=32) (S:St):(ev E0 K (m+1)).f 106 [w32 x,.int .i64 (n:Int)] (S.lg [])=some (.ret (w32 (ror x n)),S.lg []):=by
 obtain⟨U,h1,h2⟩:=turned_run hK m x hn (S.lg []);rw[h1,h2]; rfl
theorem ixG (s:Bs) {j:Nat} (hj:j<s.length):ixS (sv s) (.int .i64 (j:Int))=some (.int .u8 ((s.getD j 0).toNat:Int)):=by
 rw[qci s .i64 j hj,List.getD_eq_getElem?_getD,List.getElem?_eq_getElem hj]; rfl
theorem vstep16 {m N wb:Nat} (hA:Arr S wb 89 64 f) (hw:wb<S.next) {s:Bs} (hs:s.length=64) {v3 v5 v6:V} (nk:Ac->St->Rs) (ek:Nat->Ac->St->Rs) {i q:Nat} (hi:i<16) :
 ∃U,Arr U wb 89 64 (updW f i (qi4 (fun i=>s.getD i 0) i))/\Grew (fun x=>x=wb) S U/\qfu (ev E0 K m) N nk ek (q+1) (sv s) v3 v5 v6 (.ptr wb 0) (.int .i64 (i:Int)) S=qfu (ev E0 K m) N nk ek q (sv s) v3 v5 v6 (.ptr wb 0) (.int .i64 ((i+1:Nat):Int)) U:=by
 have ho:=hA.1;have k24:V.int .u64 24=.int .u64 ((24:Nat):Int):=rfl;have k16:V.int .u64 16=.int .u64 ((16:Nat):Int):=rfl;have k8:V.int .u64 8=.int .u64 ((8:Nat):Int):=rfl;obtain⟨U,k1,k2,k3,k4⟩:=hA.st qfa (by decide) (i:=i) (by omega) (qi4 (fun i=>s.getD i 0) i);unfold qi4 at k1;obtain⟨l,k1'⟩:=qh8 ho k1;refine⟨zz S U,k2.grew (by omega) (fun h=>h) (qcu ho k2.1),qdy ho k3,?_⟩;rw[qk2,qlc,dT (by omega),oB,ifK_bool,cT,sixteen,dT hi,oB,ifK_bool,cT];rw[mul4 (by omega),oB,ixG s (by omega),oB,cv32,oB,k24,shl32 _ _ _ _ (by omega),oB,oB,show V.int .i64 1=.int .i64 ((1:Nat):Int)from rfl,addC 1 (by omega) (by omega),oB,ixG s (by omega),oB];simp only[ons,qar];rw[cv32,oB,k16,shl32 _ _ _ _ (by omega),oB,or32,oB,oB,show V.int .i64 2=.int .i64 ((2:Nat):Int)from rfl,addC 2 (by omega) (by omega),oB,ixG s (by omega),oB];simp only[ons,qar];rw[cv32,oB,k8,shl32 _ _ _ _ (by omega),oB,or32,oB,oB,show V.int .i64 3=.int .i64 ((3:Nat):Int)from rfl,addC 3 (by omega) (by omega),oB,ixG s (by omega),oB];simp only[ons,qar];rw[cv32,oB,or32,oB,qkb (by omega),oB];simp only[ons,qar];rw[k1',oB];dsimp only;rw[qb3 (by rfl),qao ho,addC 1 (by omega) (by omega),oB]
theorem vstep48 (hK:RefK K) {m N wb:Nat} (hA:Arr S wb 89 64 f) (hw:wb<S.next) {v1 v3 v5 v6:V} (nk:Ac->St->Rs) (ek:Nat->Ac->St->Rs) {i q:Nat} (h16:16<=i) (hi:i<64) :
 ∃U,Arr U wb 89 64 (updW f i (qo7 f i))/\Grew (fun x=>x=wb) S U/\qfu (ev E0 K (m+1)) N nk ek (q+1) v1 v3 v5 v6 (.ptr wb 0) (.int .i64 (i:Int)) S=qfu (ev E0 K (m+1)) N nk ek q v1 v3 v5 v6 (.ptr wb 0) (.int .i64 ((i+1:Nat):Int)) U:=by
 have ho:=hA.1;have a1:=hA.ldOn qfa (i:=i-16) (by omega) [];have a2:=hA.ldOn qfa (i:=i-15) (by omega) [];have a3:=hA.ldOn qfa (i:=i-7) (by omega) [];have a4:=hA.ldOn qfa (i:=i-2) (by omega) [];have t:=fun(x:UInt32) (n:Nat) (hn:n<=32)=>turned_on hK m x hn S;obtain⟨U,k1,k2,k3,k4⟩:=hA.st qfa (by decide) (i:=i) hi (qo7 f i);unfold qo7 at k1;rw[turns_two _ (by omega) (by omega),turns_two _ (by omega) (by omega)]at k1;obtain⟨l,k1'⟩:=qh8 ho k1;refine⟨zz S U,k2.grew (by omega) (fun h=>h) (qcu ho k2.1),qdy ho k3,?_⟩;rw[qk2,qlc,dT hi,oB,ifK_bool,cT,sixteen,dF (by omega),oB,ifK_bool,cF];rw[show V.int .i64 15=.int .i64 ((15:Nat):Int)from rfl,subC 15 (by omega) (by omega),oB,qkb (by omega),oB];simp only[ons,qar];rw[a2,oB,show V.int .i64 2=.int .i64 ((2:Nat):Int)from rfl,subC 2 (by omega) (by omega),oB,qkb (by omega),oB];simp only[ons,qar];rw[a4,oB];dsimp only;simp only[ons,qar];rw[qb3 ?_,qao ho,qjx ho]
 . rw[show V.int .i64 16=.int .i64 ((16:Nat):Int)from rfl,subC 16 h16 (by omega),oB,qkb (by omega),oB,a1,oB]
   simp only[ons,qar];rw[show V.int .i64 7=.int .i64 ((7:Nat):Int)from rfl,t _ 7 (by omega),qal,show V.int .i64 18=.int .i64 ((18:Nat):Int)from rfl];simp only[ons,qar];rw[t _ 18 (by omega),qal,qhd,oB,show V.int .u64 3=.int .u64 ((3:Nat):Int)from rfl,qlb _ _ _ _ (by omega),oB,qhd,oB,qez,oB,subC 7 (by omega) (by omega),oB,qkb (by omega),oB];simp only[ons,qar];rw[a3,oB];dsimp only;rw[qez,oB];simp only[ons,qar];rw[show V.int .i64 17=.int .i64 ((17:Nat):Int)from rfl,t _ 17 (by omega),qal];simp only[ons,qar];rw[show V.int .i64 19=.int .i64 ((19:Nat):Int)from rfl,t _ 19 (by omega),qal,qhd,oB,show V.int .u64 10=.int .u64 ((10:Nat):Int)from rfl,qlb _ _ _ _ (by omega),oB,qhd,oB,qez,oB,qkb hi,oB];simp only[ons,qar];rw[k1',oB];dsimp only;rw[qb3 ?_,qao ho,show V.int .i64 1=.int .i64 ((1:Nat):Int)from rfl,addC 1 (by omega) (by omega),oB];refine qb0 (r1:=wb+1) (r2:=wb+2) (tags:=[0,0,0,0,1,0,0,0,0,0,0,0,0,0,0,0,0,1,0,0,0,0,0,0,0,0,0,0,0,4]) (by omega) ?_ (by decide)
   repeat' apply And.intro
   all_goals first
    | trivial
    | (intro e he; cases he; done)
    | (intro e he; cases List.mem_singleton.1 he; exact⟨rfl,by dsimp only; omega,by dsimp only; omega⟩)
    | (intro e he; trivial)
 . refine qb0 (r1:=wb+1) (r2:=wb+2) (tags:=[0,0,0,1,0,0,0,1]) (by omega) ?_ (by decide)
   repeat' apply And.intro
   all_goals first
    | trivial
    | (intro e he; cases he; done)
    | (intro e he; cases List.mem_singleton.1 he; exact⟨rfl,by dsimp only; omega,by dsimp only; omega⟩)
theorem qk0 (hK:RefK K) {m N wb:Nat} {s:Bs} (hs:s.length=64) {v3 v5 v6:V} (nk:Ac->St->Rs) (ek:Nat->Ac->St->Rs) :
 ∀(d i q:Nat) (f:Nat->UInt32) (S:St),i+d=64->d<q->Arr S wb 89 64 f->wb<S.next->
 ∃U,qfu (ev E0 K (m+1)) N nk ek q (sv s) v3 v5 v6 (.ptr wb 0) (.int .i64 (i:Int)) S=ek 0 (fr 189 [(3,v3),(5,v5),(6,v6),(7,.ptr wb 0)]) U/\Arr U wb 89 64 (qnm (fun i=>s.getD i 0) d i f)/\Grew (fun x=>x=wb) S U
 | _,_,0,_,_,_,hq,_,_=>by omega
 | 0,i,q+1,f,S,hi,hq,hA,hw=>by
  refine⟨S,?_,hA,Grew.refl _ _⟩;rw[qk2,qlc,dF (by omega),oB,ifK_bool,cF]
 | d+1,i,q+1,f,S,hi,hq,hA,hw=>by
  by_cases h16:i<16
  . obtain⟨U,u1,u2,u3⟩:=vstep16 (K:=K) (m:=m+1) (N:=N) (v3:=v3) (v5:=v5) (v6:=v6) hA hw hs nk ek (q:=q) h16
    obtain⟨T,t1,t2,t3⟩:=qk0 hK (m:=m) (N:=N) hs nk ek d (i+1) q _ U (by omega) (by omega) u1 (Nat.lt_of_lt_of_le hw u2.next);exact⟨T,u3.trans t1,by unfold qnm nextW; rw[iP h16]; exact t2,u2.trans t3⟩
  . obtain⟨U,u1,u2,u3⟩:=vstep48 hK (m:=m) (N:=N) (v1:=sv s) (v3:=v3) (v5:=v5) (v6:=v6) hA hw nk ek (q:=q) (show 16<=i by omega) (by omega)
    obtain⟨T,t1,t2,t3⟩:=qk0 hK (m:=m) (N:=N) hs nk ek d (i+1) q _ U (by omega) (by omega) u1 (Nat.lt_of_lt_of_le hw u2.next);exact⟨T,u3.trans t1,by unfold qnm nextW; rw[iN h16]; exact t2,u2.trans t3⟩
end
section
variable {S T U:St} {K:FuncId->Option KF} {v kf wf hf vf:Nat->UInt32}
theorem build87 (a b c d e f g h:UInt32):qfj E0 87 [(0,w32 a),(1,w32 b),(2,w32 c),(3,w32 d),(4,w32 e),(5,w32 f),(6,w32 g),(7,w32 h)]=some (.agg 8 (Tr.ofListFrom .nil [w32 a,w32 b,w32 c,w32 d,w32 e,w32 f,w32 g,w32 h] 0)):=by kernel_rfl
theorem vstep31 (hK:RefK K) {m N vb kb wb:Nat} (hV:Arr S vb 87 8 v) (hvl:vb<S.next) (hK1:Arr S kb 89 64 kf) (hW:Arr S wb 89 64 wf) {v3 v6:V} (nk:Ac->St->Rs) (ek:Nat->Ac->St->Rs) {i q:Nat} (hi:i<64) :
 ∃U,Arr U vb 87 8 (rnd v (kf i) (wf i))/\Grew (fun x=>x=vb) S U/\L88_32 (ev E0 K (m+1)) N nk ek (q+1) v3 (.ptr kb 0) v6 (.ptr wb 0) (.ptr vb 0) (.int .i64 (i:Int)) S=L88_32 (ev E0 K (m+1)) N nk ek q v3 (.ptr kb 0) v6 (.ptr wb 0) (.ptr vb 0) (.int .i64 ((i+1:Nat):Int)) U:=by
 have ho:=hV.1;have l:=fun(j:Nat) (hj:j<8)=>hV.ldOn qf1 (i:=j) hj [];have lo:=fun(j:Nat) (hj:j<8)=>hV.ld qf1 (i:=j) hj;have a6:=hK1.ldOn qfa (i:=i) hi [];have a7:=hW.ldOn qfa (i:=i) hi [];have t:=fun(x:UInt32) (n:Nat) (hn:n<=32)=>turned_on hK m x hn S;obtain⟨U,k1,k2,k3,k4⟩:=hV.put qf1 (agg8 (rx v (kf i) (wf i)+ry v) (v 0) (v 1) (v 2) (v 3+rx v (kf i) (wf i)) (v 4) (v 5) (v 6));unfold rx ry at k1;rw[qnz _ (by omega) (by omega) (by omega),qnz _ (by omega) (by omega) (by omega)]at k1;refine⟨U,k2,k3,?_⟩;have ix:∀k:Nat,k<8->ixA 8 1 false 1 (.ptr vb 0) (.int .i64 (k:Int))=some (.ptr vb k):=fun k hk=>qkb hk;have i0:=ix 0 (by omega); have i1:=ix 1 (by omega); have i2:=ix 2 (by omega); have i3:=ix 3 (by omega);have i4:=ix 4 (by omega); have i5:=ix 5 (by omega); have i6:=ix 6 (by omega); have i7:=ix 7 (by omega);rw[L88_32_eq,qlc,dT hi,oB,ifK_bool,cT];rw[show ixA 8 1 false 1 (.ptr vb 0) (.int .i64 4)=_ from i4,show ixA 8 1 false 1 (.ptr vb 0) (.int .i64 0)=_ from i0,show ixA 8 1 false 1 (.ptr vb 0) (.int .i64 7)=_ from i7,show ixA 8 1 false 1 (.ptr vb 0) (.int .i64 5)=_ from i5,show ixA 8 1 false 1 (.ptr vb 0) (.int .i64 6)=_ from i6,show ixA 8 1 false 1 (.ptr vb 0) (.int .i64 1)=_ from i1,show ixA 8 1 false 1 (.ptr vb 0) (.int .i64 2)=_ from i2,show ixA 8 1 false 1 (.ptr vb 0) (.int .i64 3)=_ from i3];rw[oB];simp only[ons,qar];rw[l 4 (by omega),oB,oB]
 simp only[ons,qar];rw[l 0 (by omega),oB];dsimp only;simp only[ons,qar];rw[qb3 ?_,qao ho,qjx ho]
 . rw[oB,l 7 (by omega),oB]
   simp only[ons,qar];rw[show V.int .i64 6=.int .i64 ((6:Nat):Int)from rfl,t _ 6 (by omega),qal];simp only[ons,qar];rw[show V.int .i64 11=.int .i64 ((11:Nat):Int)from rfl,t _ 11 (by omega),qal,qhd,oB];simp only[ons,qar];rw[show V.int .i64 25=.int .i64 ((25:Nat):Int)from rfl,t _ 25 (by omega),qal,qhd,oB,qez,oB,oB];simp only[ons,qar];rw[l 5 (by omega),oB];dsimp only;rw[and32,oB,not32,oB,oB];simp only[ons,qar];rw[l 6 (by omega),oB];dsimp only;rw[and32,oB,qhd,oB,qez,oB,qkb hi,oB];simp only[ons,qar];rw[a6,oB];dsimp only;rw[qez,oB,qkb hi,oB];simp only[ons,qar];rw[a7,oB];dsimp only;rw[qez,oB];simp only[ons,qar];rw[qb3 ?_,qao ho,qjx ho]
   . rw[show V.int .i64 2=.int .i64 ((2:Nat):Int)from rfl,t _ 2 (by omega),qal]
     simp only[ons,qar];rw[show V.int .i64 13=.int .i64 ((13:Nat):Int)from rfl,t _ 13 (by omega),qal,qhd,oB];simp only[ons,qar];rw[show V.int .i64 22=.int .i64 ((22:Nat):Int)from rfl,t _ 22 (by omega),qal,qhd,oB,oB];simp only[ons,qar];rw[l 1 (by omega),oB];dsimp only;rw[and32,oB,oB];simp only[ons,qar];rw[l 2 (by omega),oB];dsimp only;rw[and32,oB,qhd,oB,oB];simp only[ons,qar];rw[l 1 (by omega),oB,oB];simp only[ons,qar];rw[l 2 (by omega),oB];dsimp only;rw[and32,oB,qhd,oB,qez,oB];simp only[ons,qar];rw[qb3 ?_,qao ho,qjx ho]
     . rw[qez,oB,oB,lo 0 (by omega),oB,oB]
       dsimp only;rw[lo 1 (by omega),oB,oB];dsimp only;rw[lo 2 (by omega),oB,oB];dsimp only;rw[lo 3 (by omega),oB];dsimp only;rw[qez,oB,oB,lo 4 (by omega),oB,oB];dsimp only;rw[lo 5 (by omega),oB,oB];dsimp only;rw[lo 6 (by omega),oB];dsimp only;rw[build87,oB,k1,oB];dsimp only;rw[show V.int .i64 1=.int .i64 ((1:Nat):Int)from rfl,addC 1 (by omega) (by omega),oB]
     . refine qb0 (r1:=vb+1) (r2:=vb+2) (tags:=[0,0,0,0,0,0,0,0,0,0,1,0,0,0,1,0,0,0,1,0,1]) (by omega) ?_ (by decide)
       repeat' apply And.intro
       all_goals first
        | trivial
        | (intro e he; cases he; done)
        | (intro e he; cases List.mem_singleton.1 he; exact⟨rfl,by dsimp only; omega,by dsimp only; omega⟩)
   . refine qb0 (r1:=vb+kb+wb+1) (r2:=vb+kb+wb+2) (tags:=[0,1,0,0,0,0,0,0,0,0,0,0,0,1,0,0,0,0,1,0,0,0,0,0,1,0,0,0,1]) (by omega) ?_ (by decide)
     repeat' apply And.intro
     all_goals first
      | trivial
      | (intro e he; cases he; done)
      | (intro e he; cases List.mem_singleton.1 he; exact⟨rfl,by dsimp only; omega,by dsimp only; omega⟩)
 . refine qb0 (r1:=vb+1) (r2:=vb+2) (tags:=[0,1,0,1]) (by omega) ?_ (by decide)
   repeat' apply And.intro
   all_goals first
    | trivial
    | (intro e he; cases he; done)
    | (intro e he; cases List.mem_singleton.1 he; exact⟨rfl,by dsimp only; omega,by dsimp only; omega⟩)
theorem L32v_spec (hK:RefK K) {m N vb kb wb:Nat} (hkv:kb≠vb) (hwv:wb≠vb) {v3 v6:V} (nk:Ac->St->Rs) (ek:Nat->Ac->St->Rs) :
 ∀(d i q:Nat) (vf:Nat->UInt32) (S:St),i+d=64->d<q->Arr S vb 87 8 vf->vb<S.next->Arr S kb 89 64 kf->kb<S.next->Arr S wb 89 64 wf->wb<S.next->
 ∃U,L88_32 (ev E0 K (m+1)) N nk ek q v3 (.ptr kb 0) v6 (.ptr wb 0) (.ptr vb 0) (.int .i64 (i:Int)) S=ek 2 (fr 189 [(3,v3),(6,v6),(11,.ptr vb 0)]) U/\Arr U vb 87 8 (rnds kf wf d i vf)/\Grew (fun x=>x=vb) S U
 | _,_,0,_,_,_,hq,_,_,_,_,_,_=>by omega
 | 0,i,q+1,vf,S,hi,hq,hV,hv,hk,hkl,hw,hwl=>by
  refine⟨S,?_,hV,Grew.refl _ _⟩;rw[L88_32_eq,qlc,dF (by omega),oB,ifK_bool,cF]
 | d+1,i,q+1,vf,S,hi,hq,hV,hv,hk,hkl,hw,hwl=>by
  obtain⟨U,u1,u2,u3⟩:=vstep31 hK (m:=m) (N:=N) (v3:=v3) (v6:=v6) hV hv hk hw nk ek (q:=q) (show i<64 by omega);have:=u2.next
  obtain⟨T,t1,t2,t3⟩:=L32v_spec hK (m:=m) (N:=N) hkv hwv nk ek d (i+1) q _ U (by omega) (by omega) u1 (by omega) (hk.grew hkl hkv u2) (by omega) (hw.grew hwl hwv u2) (by omega);exact⟨T,u3.trans t1,t2,u2.trans t3⟩
theorem L14v_spec {m N vb hb:Nat} (hne:vb≠hb) {v6:V} (nk:Ac->St->Rs) (ek:Nat->Ac->St->Rs) :
 ∀(d i q:Nat) (hf:Nat->UInt32) (S:St),i+d=8->d<q->Arr S hb 87 8 hf->hb<S.next->Arr S vb 87 8 vf->vb<S.next->
 ∃U,L88_14 (ev E0 K m) N nk ek q (.ptr hb 0) v6 (.ptr vb 0) (.int .i64 (i:Int)) S=ek 4 (fr 189 [(3,.ptr hb 0),(6,v6)]) U/\Arr U hb 87 8 (sumW vf d i hf)/\Grew (fun x=>x=hb) S U
 | _,_,0,_,_,_,hq,_,_,_,_=>by omega
 | 0,i,q+1,hf,S,hi,hq,hH,hh,hV,hv=>by
  refine⟨S,?_,hH,Grew.refl _ _⟩;rw[L88_14_eq,qmj,dF (by omega),oB,ifK_bool,cF]
 | d+1,i,q+1,hf,S,hi,hq,hH,hh,hV,hv=>by
  have ho:=hH.1;have hi8:i<8:=by omega
  have a1:=hH.ldOn qf1 hi8 [];have a2:=hV.ldOn qf1 hi8 [];obtain⟨U,k1,k2,k3,k4⟩:=hH.st qf1 (by decide) hi8 (hf i+vf i);obtain⟨l,k1'⟩:=qh8 ho k1;have gz:Grew (fun x=>x=hb) S (zz S U):=qdy ho k3;have nz:(zz S U).next=U.next:=rfl
  obtain⟨T,t1,t2,t3⟩:=L14v_spec (m:=m) (N:=N) (v6:=v6) hne nk ek d (i+1) q _ (zz S U) (by omega) (by omega) (k2.grew (by omega) (fun h=>h) (qcu ho k2.1)) (by omega) (hV.grew hv hne gz) (by omega);refine⟨T,?_,t2,gz.trans t3⟩;rw[L88_14_eq,qmj,dT hi8,oB,ifK_bool,cT,qkb hi8,oB];simp only[ons,qar];rw[a1,oB,qkb hi8,oB];simp only[ons,qar];rw[a2,oB];dsimp only;rw[qez,oB,oB];simp only[ons,qar];rw[k1',oB];dsimp only;rw[qb3 ?_,qao ho,qc1 (by omega),oB,t1];refine qb0 (r1:=hb+vb+1) (r2:=hb+vb+2) (tags:=[0,0,0,1,0,0,1,0,0,4]) (by omega) ?_ (by decide)
  repeat' apply And.intro
  all_goals first
   | trivial
   | (intro e he; cases he; done)
   | (intro e he; cases List.mem_singleton.1 he; exact⟨rfl,by dsimp only; omega,by dsimp only; omega⟩)
   | (intro e he; trivial)
end
section
variable {S T U:St} {K:FuncId->Option KF} {kf h0f:Nat->UInt32}
theorem vblock_run (hK:RefK K) (m:Nat) (ho:S.on=false) {x0 x2:V} {s:Bs} (hs:s.length=64) (h0:AggV 8 x0 h0f) (h2:AggV 64 x2 kf):∃v U,(ev E0 K (m+2)).f 88 [x0,sv s,x2] S=some (.ret v,U)/\AggV 8 v (qiv kf h0f fun i=>s.getD i 0)/\Grew (fun _=>False) S U:=by
 obtain⟨t,rfl,ht⟩:=h0;obtain⟨tk,rfl,htk⟩:=h2;obtain⟨a1,a2,a3⟩:=Arr.newOf ho 87 8 ht;have ea:qjy 87 (.agg 8 t) S=some (.ptr S.next 0,(nwP 87 8 t S).2):=rfl;generalize (nwP 87 8 t S).2=S1 at a1 a2 a3 ea;have on1:=a1.1;obtain⟨b1,b2,b3⟩:=Arr.newOf on1 89 64 htk;have eb:qjy 89 (.agg 64 tk) S1=some (.ptr S1.next 0,(nwP 89 64 tk S1).2):=rfl;generalize (nwP 89 64 tk S1).2=S2 at b1 b2 b3 eb;have on2:=b1.1;obtain⟨c1,c2,c3⟩:=Arr.newOf on2 87 8 (zeros 8 [(.int .u32 0),(.int .u32 0),(.int .u32 0),(.int .u32 0),(.int .u32 0),(.int .u32 0),(.int .u32 0),(.int .u32 0)] rfl);have ec:nwP 87 8 (Tr.ofListFrom .nil [(.int .u32 0),(.int .u32 0),(.int .u32 0),(.int .u32 0),(.int .u32 0),(.int .u32 0),(.int .u32 0),(.int .u32 0)] 0) S2=(.ptr S2.next 0,(nwP 87 8 (Tr.ofListFrom .nil [(.int .u32 0),(.int .u32 0),(.int .u32 0),(.int .u32 0),(.int .u32 0),(.int .u32 0),(.int .u32 0),(.int .u32 0)] 0) S2).2):=rfl;generalize (nwP 87 8 (Tr.ofListFrom .nil [(.int .u32 0),(.int .u32 0),(.int .u32 0),(.int .u32 0),(.int .u32 0),(.int .u32 0),(.int .u32 0),(.int .u32 0)] 0) S2).2=S3 at c1 c2 c3 ec;have on3:=c1.1;obtain⟨d1,d2,d3⟩:=Arr.newOf on3 89 64 (zeros 64 (List.replicate 64 (.int .u32 0)) rfl);have ed:nwP 89 64 (Tr.ofListFrom .nil (List.replicate 64 (.int .u32 0)) 0) S3=(.ptr S3.next 0,(nwP 89 64 (Tr.ofListFrom .nil (List.replicate 64 (.int .u32 0)) 0) S3).2):=rfl
 generalize (nwP 89 64 (Tr.ofListFrom .nil (List.replicate 64 (.int .u32 0)) 0) S3).2=S4 at d1 d2 d3 ed;have hF:=F88_eq (ev E0 K (m+1)) qa1 (.agg 8 t) (sv s) (.agg 64 tk) S;rw[ea,oB]at hF;dsimp only at hF;rw[eb,oB]at hF;dsimp only at hF;rw[ec,oB]at hF;dsimp only at hF;rw[show(Tr.ofListFrom .nil z64q 0:Tr V)=Tr.ofListFrom .nil (List.replicate 64 (.int .u32 0)) 0 from rfl,ed,oB]at hF;dsimp only at hF;have gA:=b2.trans (c2.trans d2);have gB:=c2.trans d2
 have hH4:Arr S4 S.next 87 8 h0f:=a1.grew (by omega) (fun h=>h) gA
 have hK4:Arr S4 S1.next 89 64 kf:=b1.grew (by omega) (fun h=>h) gB
 have hO4:Arr S4 S2.next 87 8 _:=c1.grew (by omega) (fun h=>h) d2
 obtain⟨S5,e1,e2,e3⟩:=qk0 hK (m:=m) (N:=qa1) (wb:=S3.next) (s:=s) hs (v3:=.ptr S.next 0) (v5:=.ptr S1.next 0) (v6:=.ptr S2.next 0) (R88_4 (ev E0 K (m+1)) qa1 (qat E0 (ev E0 K (m+1)) Tryz.f88) qad) (exB 0 (R88_4 (ev E0 K (m+1)) qa1 (qat E0 (ev E0 K (m+1)) Tryz.f88) qad) qad) 64 0 qa1 _ S4 rfl (by unfold qa1; omega) d1 (by omega);have n5:=e3.next
 have hH5:Arr S5 S.next 87 8 h0f:=hH4.grew (by omega) (by omega) e3
 have hK5:Arr S5 S1.next 89 64 kf:=hK4.grew (by omega) (by omega) e3
 have hO5:Arr S5 S2.next 87 8 _:=hO4.grew (by omega) (by omega) e3
 obtain⟨w,f1,_,fw⟩:=hH5.all qf1;obtain⟨tw,rfl,htw⟩:=fw
 obtain⟨S6,g1,g2,g3,g4⟩:∃S6,stP 8 (.ptr S5.next 0) (.agg 8 tw) (nwP 87 8 (Tr.ofListFrom .nil [(.int .u32 0),(.int .u32 0),(.int .u32 0),(.int .u32 0),(.int .u32 0),(.int .u32 0),(.int .u32 0),(.int .u32 0)] 0) S5).2=some (.tuple [],S6)/\Arr S6 S5.next 87 8 h0f/\Grew (fun _=>False) S5 S6/\S6.next=S5.next+1:=by
  obtain⟨q1,q2,q3⟩:=Arr.newOf hH5.1 87 8 (zeros 8 [(.int .u32 0),(.int .u32 0),(.int .u32 0),(.int .u32 0),(.int .u32 0),(.int .u32 0),(.int .u32 0),(.int .u32 0)] rfl);obtain⟨U,p1,p2,p3,p4⟩:=q1.put qf1 ⟨tw,rfl,htw⟩;exact⟨U,p1,p2,Grew.then q2 p3 fun x hx e=>by omega,by omega⟩
 obtain⟨S7,k1,k2,k3⟩:=L32v_spec hK (m:=m) (N:=qa1) (vb:=S5.next) (kb:=S1.next) (wb:=S3.next) (v3:=.ptr S.next 0) (v6:=.ptr S2.next 0) (by omega) (by omega) (R88_8 (ev E0 K (m+1)) qa1 (fun a s=>qa7 [6] a fun a=>qat E0 (ev E0 K (m+1)) Tryz.f88 a s) qad) (exB 2 (R88_8 (ev E0 K (m+1)) qa1 (fun a s=>qa7 [6] a fun a=>qat E0 (ev E0 K (m+1)) Tryz.f88 a s) qad) qad) 64 0 qa1 _ S6 rfl (by unfold qa1; omega) g2 (by omega) (hK5.grew (by omega) (fun h=>h) g3) (by omega) (e2.grew (by omega) (fun h=>h) g3) (by omega);have n7:=k3.next
 have hH7:Arr S7 S.next 87 8 h0f:=(hH5.grew (by omega) (fun h=>h) g3).grew (by omega) (by omega) k3
 have hO7:Arr S7 S2.next 87 8 _:=(hO5.grew (by omega) (fun h=>h) g3).grew (by omega) (by omega) k3
 obtain⟨S8,p1,p2,p3⟩:=L14v_spec (K:=K) (m:=m+1) (N:=qa1) (vb:=S5.next) (hb:=S.next) (v6:=.ptr S2.next 0) (by omega) (R88_9 (ev E0 K (m+1)) qa1 (fun a s=>qa7 [6] a fun a=>(fun a s=>qa7 [6] a fun a=>qat E0 (ev E0 K (m+1)) Tryz.f88 a s) a s) qad) (exB 4 (R88_9 (ev E0 K (m+1)) qa1 (fun a s=>qa7 [6] a fun a=>(fun a s=>qa7 [6] a fun a=>qat E0 (ev E0 K (m+1)) Tryz.f88 a s) a s) qad) qad) 8 0 qa1 _ S7 rfl (by unfold qa1; omega) hH7 (by omega) k2 (by omega);have n8:=p3.next
 have hO8:Arr S8 S2.next 87 8 _:=hO7.grew (by omega) (by omega) p3
 obtain⟨w8,q1,_,q3⟩:=p2.all qf1;obtain⟨S9,r1,r2,r3,r4⟩:=hO8.put qf1 q3;obtain⟨w9,_,s2,s3⟩:=r2.all qf1;refine⟨w9,S9,rv88 hK ?_,s3,?_⟩
 . refine hF.trans ?_
   rw[show V.int .i64 0=.int .i64 ((0:Nat):Int)from rfl];refine e1.trans ?_;rw[exB_same,R88_4_eq,f1,oB];dsimp only;rw[oB,qet,g1,oB];dsimp only;rw[show V.int .i64 0=.int .i64 ((0:Nat):Int)from rfl];refine k1.trans ?_;rw[exB_same,R88_8_eq,show V.int .i64 0=.int .i64 ((0:Nat):Int)from rfl];refine p1.trans ?_;rw[exB_same,R88_9_eq,q1,oB];dsimp only;rw[r1,oB];dsimp only;rw[s2,oB]
 . exact Grew.then (Grew.then (Grew.then (Grew.then (Grew.then (a2.trans gA) e3 fun x hx e=>by omega) g3 fun _ _ h=>h) k3 fun x hx e=>by omega) p3 fun x hx e=>by omega) r3 fun x hx e=>by omega
theorem pack_zero:∀(l:Bs),(∀b∈l,b=0)->qbh l=0
 | [],_=>rfl
 | b::l,h=>by
  unfold qbh;rw[h b (List.mem_cons_self ..),pack_zero l fun x hx=>h x (mO _ hx)]; rfl
theorem conv_slice (ho:S.on=false) {r n c:Nat} {bs:Bs} (h:Pre S r n bs) (hb:bs≠[]):qbe E0 43 9 (.slice r 0 bs.length c) S=some (sv bs,S):=by
 have hld:=h.ldN ho bs.length 0 (by omega);rw[List.drop_zero,List.take_length]at hld;obtain⟨t,h1,h2,h3,h4⟩:=h;have hf:qbc 1 bs.length (.slice r 0 bs.length c) S=some (bs.map qbb,S):=hld;unfold qbe;rw[undB43,und9];simp only[oB,qch,Bool.or_self,cF,und5,lenV];rw[hf];simp only[oB,qfz];unfold qb2;rw[h1];simp only;cases hz:(Nat.beq 1 1&&Nat.ble (0+bs.length) n&&Nat.blt n big&&Nat.blt 0 bs.length&&qdh t)with
 | false=>rfl
 | true=>
  rw[bA]at hz;obtain⟨_,hz⟩:=hz;unfold qdh at hz;split at hz
  . rename_i u
    split at hz
    . rename_i m hu
      have hm:m=0:=beq_true.1 hz;subst hm
      have hall:∀b∈bs,b=0:=fun b hb=>by
       obtain⟨i,hi⟩:=List.mem_iff_getElem?.1 hb;have hg:=h4 i b hi;have:u=qbb b:=by simpa [Tr.get]using hg
       rw[this]at hu;have h0:(qbb b).get 0=some (.int .u8 (b.toNat:Int)):=rfl;rw[h0]at hu;have:(b.toNat:Int)=Int.ofNat 0:=by simpa using hu
       exact UInt8.toNat_inj.1 (by simpa using this)
      rw[qav ho];show some (V.str bs.length 0,S)=_;unfold sv;rw[pack_zero bs hall]
    . cases hz
  . cases hz
end
section
variable {S T U:St} {K:FuncId->Option KF}
theorem L30v_spec {m N:Nat} {v3:V} (nk:Ac->St->Rs) (ek:Nat->Ac->St->Rs) :
 ∀(d q:Nat) (bs:Bs),(bs.length+d)%64=56->d<64->d<q->bs.length+d<100000->
 L87_30 (ev E0 K m) N nk ek q (sv bs) v3 S=ek 0 (fr 31 [(0,sv (bs++List.replicate d 0)),(3,v3)]) S
 | _,0,_,_,_,hq,_=>by omega
 | 0,q+1,bs,hd,_,hq,hl=>by
  rw[L87_30_eq,qa5,oB];dsimp only;rw[rem64,oB,neq56,oB,dT (by omega),Bool.not_true,ifK_bool,cF];simp
 | d+1,q+1,bs,hd,hd64,hq,hl=>by
  have ih:=L30v_spec (m:=m) (N:=N) (v3:=v3) nk ek d q (bs++[0]) (by rw[lAq,List.length_singleton]; omega) (by omega) (by omega) (by rw[lAq,List.length_singleton]; omega);rw[L87_30_eq,qa5,oB];dsimp only;rw[rem64,oB,neq56,oB,dF (by omega),nF,ifK_bool,cT,qc6 _ _ (by simp; omega),oB,ih,List.append_assoc];rfl
theorem pre_row {r n:Nat} {bs:Bs} (h:RowAt S r 5 1 (bs.map qbb)) (hn:bs.length=n) (hl:n<1000000):Pre S r n bs:=by
 obtain⟨t,t1,t2⟩:=h.row;rw[lM,hn]at t1;exact⟨t,t1,Nat.le_of_eq hn,hl,fun i b hb=>t2 i _ (by rw[List.getElem?_map,hb]; rfl)⟩
theorem conv_one (ho:S.on=false) (c:UInt8):∃W,bsP 5 1 1 (Ev.one (.int .u8 0)) [(0,.int .u8 (c.toNat:Int))] S=some (.slice S.next 0 1 1,W)/\qbe E0 43 9 (.slice S.next 0 1 1) W=some (sv [c],W)/\Grew (fun _=>False) S W:=by
 obtain⟨W,h1,h2,h3,h4⟩:=bsP_byte ho 5 c;have hp:Pre W S.next 1 [c]:=pre_row h2 rfl (by omega)
 have hc:=conv_slice (h3.on.trans ho) (c:=1) hp (List.cons_ne_nil c []);rw[List.length_singleton]at hc;exact⟨W,h1,hc,h3⟩
theorem geq0 (a:Int):qa4 E0 .geq 3 false true (.int .i64 a) (.int .i64 0)=some (.bool (decide (0<=a))):=by rw[binV_ii,intsV_geq]
theorem L14p_spec {m N n:Nat} (hn:n<100000) (nk:Ac->St->Rs) (ek:Nat->Ac->St->Rs) :
 ∀(d i q:Nat) (bs:Bs) (S:St),i+d=8->d<q->S.on=false->bs.length+d<100000->
 ∃U,L87_14 (ev E0 K m) N nk ek q (sv bs) (.int .u64 ((n*8:Nat):Int)) (.int .i64 (7-(i:Int))) S=ek 2 (fr 31 [(0,sv (bs++lens n d i))]) U/\Grew (fun _=>False) S U
 | _,_,0,_,_,_,hq,_,_=>by omega
 | 0,i,q+1,bs,S,hi,hq,ho,hl=>by
  refine⟨S,?_,Grew.refl _ _⟩;rw[L87_14_eq,geq0,dF (by omega),oB,ifK_bool,cF];unfold lens;rw[List.append_nil]
 | d+1,i,q+1,bs,S,hi,hq,ho,hl=>by
  obtain⟨W,a1,a2,a3⟩:=conv_one ho (qmx n i);obtain⟨U,t1,t2⟩:=L14p_spec (m:=m) (N:=N) hn nk ek d (i+1) q (bs++[qmx n i]) W (by omega) (by omega) (a3.on.trans ho) (by rw[lAq,List.length_singleton]; omega);rw[List.append_assoc,show [qmx n i]++lens n d (i+1)=lens n (d+1) i from rfl]at t1;refine⟨U,?_,a3.trans t2⟩;unfold qmx at a1;rw[L87_14_eq,geq0,dT (by omega),oB,ifK_bool,cT,show(7:Int)-(i:Int)=((7-i:Nat):Int) by omega,mul8 (by omega),oB,shrU _ (by omega),oB,cv8n,oB];dsimp only;rw[a1,oB];dsimp only;unfold qmx at a2;rw[a2,oB];dsimp only;unfold qmx at t1;rw[qc6 _ _ (by simp; omega),oB,binV_ii,intsV_sub,show((7-i:Nat):Int)-1=7-((i+1:Nat):Int) by omega,qbg (by omega) (by omega),oB,t1]
theorem padded_run (hK:RefK K) (m:Nat) (ho:S.on=false) (s:Bs) (hs:s.length<80000):∃U,(ev E0 K (m+1)).f 87 [sv s] S=some (.ret (sv (qeu s)),U)/\Grew (fun _=>False) S U:=by
 have hpl:(s++[128]).length=s.length+1:=by rw[lAq]; rfl
 have h1:=L30v_spec (S:=S) (K:=K) (m:=m) (N:=qa1) (v3:=.int .u64 ((s.length*8:Nat):Int)) (R87_9 (ev E0 K m) qa1 (qat E0 (ev E0 K m) Tryz.f87) qad) (exB 0 (R87_9 (ev E0 K m) qa1 (qat E0 (ev E0 K m) Tryz.f87) qad) qad) (padN s.length) qa1 (s++[128]) (by rw[hpl]; unfold padN; omega) (by unfold padN; omega) (by unfold padN qa1; omega) (by rw[hpl]; unfold padN; omega);obtain⟨U,t1,t2⟩:=L14p_spec (K:=K) (m:=m) (N:=qa1) (n:=s.length) (by omega) (R87_10 (ev E0 K m) qa1 (fun a s=>qa7 [2] a fun a=>qat E0 (ev E0 K m) Tryz.f87 a s) qad) (exB 2 (R87_10 (ev E0 K m) qa1 (fun a s=>qa7 [2] a fun a=>qat E0 (ev E0 K m) Tryz.f87 a s) qad) qad) 8 0 qa1 (s++[128]++List.replicate (padN s.length) 0) S rfl (by unfold qa1; omega) ho (by rw[lAq,hpl,List.length_replicate]; unfold padN; omega);refine⟨U,rv87 hK ?_,t2⟩;show F87 (ev E0 K m) qa1 (sv s) S=_;rw[F87_eq,qa5,oB];dsimp only;rw[cvI_int,wrap_u64 (by omega) (by omega),oB];dsimp only;rw[mulU8 (by omega),oB,qc6 _ _ (by simp; omega),oB];refine h1.trans ?_;rw[exB_same,R87_9_eq];refine Eq.trans t1 ?_;rw[exB_same,R87_10_eq];rfl
theorem make_out (ho:S.on=false):∃U,qe1 E0 43 (.int .i64 0) (.int .i64 32) S=some (.slice S.next 0 0 32,U)/\Pre U S.next 32 []/\Grew (fun _=>False) S U/\U.next=S.next+1:=by
 refine⟨qic S 5 1 (.int .u8 0) 32,by kernel_rfl,⟨_,by unfold qic; rw[qdv,iP rfl],by simp,by omega,fun i b hb=>by simp at hb⟩,qca ho _ _,rfl⟩
theorem app_out (ho:S.on=false) {r:Nat} {bs:Bs} (h:Pre S r 32 bs) (hr:r<S.next) (hl:bs.length+4<=32) (a b c d:UInt8):∃W U,bsP 5 1 4 (Ev.one (.int .u8 0)) [(0,.int .u8 (a.toNat:Int)),(1,.int .u8 (b.toNat:Int)),(2,.int .u8 (c.toNat:Int)),(3,.int .u8 (d.toNat:Int))] S=some (.slice S.next 0 4 4,W)/\apP 5 1 1 (.slice r 0 bs.length 32) (.slice S.next 0 4 4) W=some (.slice r 0 (bs.length+4) 32,U)/\Pre U r 32 (bs++[a,b,c,d])/\Grew (fun x=>x=r) S U:=by
 obtain⟨W,h1,h2,h3,h4⟩:=fourB ho a b c d;have on1:=h3.on.trans ho;have hR:=rw_four on1 h2 rfl;obtain⟨U,k1,k2,k3,k4⟩:=(h.grew hr (fun h=>h) h3).stN [a,b,c,d] on1 hl;refine⟨W,U,h1,?_,k2,(h3.mono fun _ _ h=>h.elim).trans k3⟩;unfold apP;rw[hR.1,oB,show lenV (.slice r 0 bs.length 32)=some bs.length from rfl,oB,show Nat.blt ((bs.length+([a,b,c,d].map qbb).length)*(1+1+1)) qac=true from blt_true.2 (by show(bs.length+4)*3<qac; unfold qac; omega),cT];unfold qc3;rw[hR.2,oB];simp only;rw[show Nat.ble (bs.length+([a,b,c,d].map qbb).length) 32=true from ble_true.2 hl,cT,Nat.zero_add,Nat.mul_one,k1,oB];rfl
end
theorem map_at {α:Type} (g:Nat->α) {l:List Nat} {i p:Nat} (h:i<l.length) (hp:l.getD i 0=p):(l.map g)[i]?=some (g p):=by
 rw[<- hp,List.getD_eq_getElem?_getD,List.getElem?_map,List.getElem?_eq_getElem h]; rfl
theorem word16_congr {g g':Nat->UInt8} (h:∀i,i<64->g i=g' i) {i:Nat} (hi:i<16):qi4 g i=qi4 g' i:=by
 unfold qi4;rw[h (4*i) (by omega),h (4*i+1) (by omega),h (4*i+2) (by omega),h (4*i+3) (by omega)]
theorem qnn {g g':Nat->UInt8} (h:∀i,i<64->g i=g' i):∀(d i:Nat) (f:Nat->UInt32),qnm g d i f=qnm g' d i f
 | 0,_,_=>rfl
 | d+1,i,f=>by
  unfold qnm
  have:nextW g f i=nextW g' f i:=by
   unfold nextW;by_cases hi:i<16
   . rw[iP hi,iP hi,word16_congr h hi]
   . rw[iN hi,iN hi]
  rw[this,qnn h d]
theorem block_congr {kf hf:Nat->UInt32} {g g':Nat->UInt8} (h:∀i,i<64->g i=g' i):qiv kf hf g=qiv kf hf g':=by
 unfold qiv;rw[qnn h]
section
variable {S T U:St} {K:FuncId->Option KF} {kf hf:Nat->UInt32}
theorem L67_spec (hK:RefK K) {m N r hb kb:Nat} (hrh:r≠hb) (hrk:r≠kb) (hhk:hb≠kb) {v0:V} (nk:Ac->St->Rs) (ek:Nat->Ac->St->Rs) :
 ∀(d i q:Nat) (hf kf:Nat->UInt32) (S:St),i+d=64->d<q->RowAt S r 108 1 (P52.map numC)->r<S.next->Arr S hb 87 8 hf->hb<S.next->Arr S kb 89 64 kf->kb<S.next->(∀j,j<i->j<8->hf j=hW j)->(∀j,j<i->kf j=kW j)->
 ∃U,L58_67 (ev E0 K (m+3)) N nk ek q v0 (.oslice r 0 64 1) (.ptr hb 0) (.ptr kb 0) (.int .i64 (i:Int)) S=ek 0 (fr 77 [(0,v0),(4,.ptr hb 0),(5,.ptr kb 0)]) U/\Arr U hb 87 8 hW/\Arr U kb 89 64 kW/\Grew (fun x=>x=hb\/x=kb) S U
 | _,_,0,_,_,_,_,hq,_,_,_,_,_,_,_,_=>by omega
 | 0,i,q+1,hf,kf,S,hi,hq,hR,hr,hH,hh,hKk,hk,h1,h2=>by
  refine⟨S,?_,hH.ext fun j hj=>h1 j (by omega) hj,hKk.ext fun j hj=>h2 j (by omega),Grew.refl _ _⟩;rw[L58_67_eq,qlc,dF (by omega),oB,ifK_bool,cF]
 | d+1,i,q+1,hf,kf,S,hi,hq,hR,hr,hH,hh,hKk,hk,h1,h2=>by
  have ho:=hH.1;have hi64:i<64:=by omega
  have hd64:i+1+d=64:=by omega
  have hdq:d<q:=by omega
  have hil:i<P52.length:=(by rw[p52_len]; exact hi64)
  obtain⟨p,hp⟩:∃p,P52.getD i 0=p:=⟨_,rfl⟩
  have hx:(P52.map numC)[i]?=some (Ev.one (.int .u64 (p:Int))):=map_at numC hil hp;have a2:ld1 (.ptr r i) S=some (.int .u64 (p:Int),S):=hR.ld1 ho hx;have a1:ixP 1 (.oslice r 0 64 1) (.int .i64 (i:Int))=some (.ptr r i):=ixP_os1 r 64 i hi64;obtain⟨U1,k1,k2,k3,k4⟩:=hKk.st qfa (by decide) (i:=i) hi64 (rootW qiy p);have on1:=k2.1;have hr1:r<U1.next:=Nat.lt_of_lt_of_le hr k3.next
  have hh1:hb<U1.next:=Nat.lt_of_lt_of_le hh k3.next
  have hk1l:kb<U1.next:=Nat.lt_of_lt_of_le hk k3.next
  have hR1:=hR.grew hr hrk k3;have hH1:=hH.grew hh hhk k3
  have hk1:∀j,j<i+1->updW kf i (rootW qiy p) j=kW j:=fun j hj=>by
   unfold updW;by_cases e:j=i
   . rw[iP e,e]; unfold kW; rw[hp]
   . rw[iN e]; exact h2 j (Nat.lt_of_le_of_ne (Nat.le_of_lt_succ hj) e)
  rw[L58_67_eq,qlc,dT hi64,oB,ifK_bool,cT,a1,oB,a2,oB];dsimp only;rw[cubeR_run hK m,callP_ret,qkb hi64,oB,k1,oB,qmj,oB,ifK_bool];by_cases h8:i<8
  . have a2':ld1 (.ptr r i) U1=some (.int .u64 (p:Int),U1):=hR1.ld1 on1 hx
    obtain⟨U2,j1,j2,j3,j4⟩:=hH1.st qf1 (by decide) (i:=i) h8 (rootW qef p)
    obtain⟨T,t1,t2,t3,t4⟩:=L67_spec hK (m:=m) (N:=N) (v0:=v0) hrh hrk hhk nk ek d (i+1) q _ _ U2 hd64 hdq (hR1.grew hr1 hrh j3) (Nat.lt_of_lt_of_le hr1 j3.next) j2 (Nat.lt_of_lt_of_le hh1 j3.next) (k2.grew hk1l (fun e=>hhk e.symm) j3) (Nat.lt_of_lt_of_le hk1l j3.next) (fun j hj hj8=>by
     unfold updW;by_cases e:j=i
     . rw[iP e,e]; unfold hW; rw[hp]
     . rw[iN e]; exact h1 j (Nat.lt_of_le_of_ne (Nat.le_of_lt_succ hj) e) hj8) hk1
    refine⟨T,?_,t2,t3,(k3.mono fun x _ e=>.inr e).trans ((j3.mono fun x _ e=>.inl e).trans t4)⟩;rw[dT h8,cT];rw[oB,a2',oB];dsimp only;rw[show ev E0 K (m+3)=ev E0 K (m+1+2)from rfl,squareR_run hK (m+1),callP_ret,qkb h8,oB,j1,oB];dsimp only;rw[show V.int .i64 1=.int .i64 ((1:Nat):Int)from rfl,addC 1 (Nat.lt_trans hi64 (by decide)) (by decide),oB];exact t1
  . obtain⟨T,t1,t2,t3,t4⟩:=L67_spec hK (m:=m) (N:=N) (v0:=v0) hrh hrk hhk nk ek d (i+1) q _ _ U1 hd64 hdq hR1 hr1 hH1 hh1 k2 hk1l (fun j hj hj8=>h1 j (Nat.lt_of_le_of_ne (Nat.le_of_lt_succ hj) fun e=>h8 (e▸hj8)) hj8) hk1
    refine⟨T,?_,t2,t3,(k3.mono fun x _ e=>.inr e).trans t4⟩;rw[dF h8,cF];dsimp only;rw[show V.int .i64 1=.int .i64 ((1:Nat):Int)from rfl,addC 1 (Nat.lt_trans hi64 (by decide)) (by decide),oB];exact t1
theorem L48v_spec (hK:RefK K) (hLg:Lg.KnLoc K) {m N hb kb:Nat} (hhk:hb≠kb) {p:Bs} (hpl:p.length<90000) (nk:Ac->St->Rs) (ek:Nat->Ac->St->Rs) :
 ∀(c off q:Nat) (hf:Nat->UInt32) (S:St),off+64*c=p.length->c<q->Arr S hb 87 8 hf->hb<S.next->Arr S kb 89 64 kf->kb<S.next->
 ∃U,L58_48 (ev E0 K (m+2)) N nk ek q (.ptr hb 0) (.ptr kb 0) (sv p) (.int .i64 (off:Int)) S=ek 2 (fr 77 [(4,.ptr hb 0)]) U/\Arr U hb 87 8 (qk5 kf p c off hf)/\Grew (fun x=>x=hb) S U
 | _,_,0,_,_,_,hq,_,_,_,_=>by omega
 | 0,off,q+1,hf,S,hc,hq,hH,hh,hKk,hk=>by
  refine⟨S,?_,hH,Grew.refl _ _⟩;rw[L58_48_eq,qa5,oB];dsimp only;rw[qds,dF (by omega),oB,ifK_bool,cF]
 | c+1,off,q+1,hf,S,hc,hq,hH,hh,hKk,hk=>by
  have ho:=hH.1;obtain⟨_,th,th1,th2⟩:=id hH;obtain⟨_,tk,tk1,tk2⟩:=id hKk;have hsl:((p.drop off).take 64).length=64:=by rw[List.length_take,List.length_drop]; omega
  obtain⟨v,U1,b1,b2,b3⟩:=vblock_run hK m ho (s:=(p.drop off).take 64) hsl ⟨th,rfl,th2⟩ ⟨tk,rfl,tk2⟩;obtain⟨L1,b1'⟩:=Lg.ev_lg hLg b1 [];have on1:=b3.on.trans ho;have hH1:=hH.grew hh (fun h=>h) b3;obtain⟨U2,c1,c2,c3,c4⟩:=hH1.put qf1 b2;obtain⟨l2,c1'⟩:=qh8 on1 c1;have n1:=b3.next
  have gz:Grew (fun x=>x=hb) S (zz S U2):=qdy ho ((b3.mono fun _ _ h=>h.elim).trans c3);have g0:Grew (fun _=>False) U2 (zz S U2):=qcu ho c2.1;have nz:(zz S U2).next=U2.next:=rfl
  have hcg:qiv kf hf (fun i=>((p.drop off).take 64).getD i 0)=qiv kf hf fun i=>p.getD (off+i) 0:=block_congr fun i hi=>by
   rw[List.getD_eq_getElem?_getD,List.getD_eq_getElem?_getD,List.getElem?_take_of_lt hi,List.getElem?_drop]
  obtain⟨T,t1,t2,t3⟩:=L48v_spec hK hLg (m:=m) (N:=N) hhk hpl nk ek c (off+64) q _ (zz S U2) (by omega) (by omega) (c2.grew (by omega) (fun h=>h) g0) (by omega) (hKk.grew hk (fun e=>hhk e.symm) gz) (by omega);rw[hcg]at t2;refine⟨T,?_,t2,gz.trans t3⟩;rw[L58_48_eq,qa5,oB];dsimp only;rw[qds,dT (by omega),oB,ifK_bool,cT];simp only[ons,qar];rw[th1.ldOn qf1,oB,show V.int .i64 64=.int .i64 ((64:Nat):Int)from rfl,addC 64 (by omega) (by omega),oB];simp only[ons,qar];rw[qda und9 p (qi5 .i64 .i64 (show off<=off+64 by omega) (show off+64<=p.length by omega)) (by omega),oB,show off+64-off=64 by omega];simp only[ons,qar];rw[tk1.ldOn qfa,oB];simp only[ons,qar];rw[b1',qal];simp only[ons,qar];rw[c1',oB];dsimp only;rw[qb3 ?_,qao ho,oB]
  . exact t1
  . refine qb0 (r1:=hb+kb+1) (r2:=hb+kb+2) (tags:=[1,0,0,0,0,0,1,4,4]) (by omega) ?_ (by decide)
    repeat' apply And.intro
    all_goals first
     | trivial
     | (intro e he; cases he; done)
     | (intro e he; cases List.mem_singleton.1 he; exact⟨rfl,by dsimp only; omega,by dsimp only; omega⟩)
     | (intro e he; trivial)
theorem L17v_spec {m N hb r:Nat} (hne:r≠hb) {f:Nat->UInt32} (nk:Ac->St->Rs) (ek:Nat->Ac->St->Rs) :
 ∀(d i q:Nat) (bs:Bs) (S:St),i+d=8->d<q->Arr S hb 87 8 f->hb<S.next->Pre S r 32 bs->r<S.next->bs.length=4*i->
 ∃U,L58_17 (ev E0 K m) N nk ek q (.ptr hb 0) (.slice r 0 bs.length 32) (.int .i64 (i:Int)) S=ek 4 (fr 77 [(9,.slice r 0 32 32)]) U/\Pre U r 32 (bs++qf2 f d i)/\U.on=false/\Grew (fun x=>x=r) S U
 | _,_,0,_,_,_,hq,_,_,_,_,_=>by omega
 | 0,i,q+1,bs,S,hi,hq,hH,hh,hP,hr,hl=>by
  refine⟨S,?_,by unfold qf2; rw[List.append_nil]; exact hP,hH.1,Grew.refl _ _⟩;rw[L58_17_eq,qmj,dF (by omega),oB,ifK_bool,cF,show bs.length=32 by omega]
 | d+1,i,q+1,bs,S,hi,hq,hH,hh,hP,hr,hl=>by
  have ho:=hH.1;have hi8:i<8:=by omega
  have a1:=hH.ldOn qf1 hi8 [];obtain⟨W,U1,b1,b2,b3,b4⟩:=app_out ho hP hr (by omega) (b8 (sr (f i) 24)) (b8 (sr (f i) 16)) (b8 (sr (f i) 8)) (b8 (f i));obtain⟨l1,b1'⟩:=lg_of (lg_bsP _ _ _ _ _) b1 [];obtain⟨l2,b2'⟩:=lg_of (lg_apP _ _ _ _ _) b2 [];have on1:=b4.on.trans ho;have n1:=b4.next
  have gz:Grew (fun x=>x=r) S (zz S U1):=qdy ho b4;have g0:Grew (fun _=>False) U1 (zz S U1):=qcu ho on1;have nz:(zz S U1).next=U1.next:=rfl
  have hlen:(bs++[b8 (sr (f i) 24),b8 (sr (f i) 16),b8 (sr (f i) 8),b8 (f i)]).length=bs.length+4:=by rw[lAq]; rfl
  obtain⟨T,t1,t2,t3,t4⟩:=L17v_spec (m:=m) (N:=N) hne nk ek d (i+1) q _ (zz S U1) (by omega) (by omega) (hH.grew hh (fun e=>hne e.symm) gz) (by omega) (b3.grew (by omega) (fun h=>h) g0) (by omega) (by rw[hlen]; omega);rw[List.append_assoc,show [b8 (sr (f i) 24),b8 (sr (f i) 16),b8 (sr (f i) 8),b8 (f i)]++qf2 f d (i+1)=qf2 f (d+1) i from rfl]at t2;rw[hlen]at t1;refine⟨T,?_,t2,t3,gz.trans t4⟩;have k24:V.int .u64 24=.int .u64 ((24:Nat):Int):=rfl;have k16:V.int .u64 16=.int .u64 ((16:Nat):Int):=rfl;have k8:V.int .u64 8=.int .u64 ((8:Nat):Int):=rfl;rw[L58_17_eq,qmj,dT hi8,oB,ifK_bool,cT,qkb hi8,oB];simp only[ons,qar];rw[a1,oB];simp only[ons,qar];rw[k24,qlb _ _ _ _ (by omega),oB,cv8w,oB,oB];simp only[ons,qar];rw[a1,oB];simp only[ons,qar];rw[k16,qlb _ _ _ _ (by omega),oB,cv8w,oB,oB];simp only[ons,qar];rw[a1,oB];simp only[ons,qar];rw[k8,qlb _ _ _ _ (by omega),oB,cv8w,oB,oB];simp only[ons,qar];rw[a1,oB];simp only[ons,qar];rw[cv8w,oB];simp only[ons,qar];rw[b1',oB];simp only[ons,qar];rw[b2',oB];dsimp only;simp only[ons,qar];rw[qb3 ?_,qao ho,qc1 (by omega),oB]
  . exact t1
  . refine qb0 (r1:=hb+1) (r2:=hb+2) (tags:=[0,0,0,1,0,0,0,0,1,0,0,0,0,1,0,0,0,0,1,0,4,4,0]) (by omega) ?_ (by decide)
    repeat' apply And.intro
    all_goals first
     | trivial
     | (intro e he; cases he; done)
     | (intro e he; cases List.mem_singleton.1 he; exact⟨rfl,by dsimp only; omega,by dsimp only; omega⟩)
     | (intro e he; trivial)
end
section
variable {S T U:St} {K:FuncId->Option KF}
theorem dsum_run (hK:RefK K) (hLg:Lg.KnLoc K) (m:Nat) (ho:S.on=false) (s:Bs) (hs:s.length<80000):∃U,(ev E0 K (m+4)).f 58 [sv s] S=some (.ret (sv (sumB s)),U)/\Grew (fun _=>False) S U:=by
 obtain⟨v,S1,p1,p2,p3⟩:=primes_run hK (m+2) ho;have on1:=p3.on.trans ho
 obtain⟨r,rfl,hR,hr,hrN⟩:∃r,v=.oslice r 0 64 1/\RowAt S1 r 108 1 (P52.map numC)/\r<S1.next/\S.next<=r:=by
  rcases p2 with⟨h,_⟩|⟨_,r,h1,h2,h3,h4⟩
  . have:=p52_len; rw[h]at this; cases this
  . rw[p52_len]at h1; exact⟨r,h1,h2,h3,h4⟩
 obtain⟨a1,a2,a3⟩:=Arr.newOf on1 87 8 (zeros 8 [(.int .u32 0),(.int .u32 0),(.int .u32 0),(.int .u32 0),(.int .u32 0),(.int .u32 0),(.int .u32 0),(.int .u32 0)] rfl);have ea:nwP 87 8 (Tr.ofListFrom .nil [(.int .u32 0),(.int .u32 0),(.int .u32 0),(.int .u32 0),(.int .u32 0),(.int .u32 0),(.int .u32 0),(.int .u32 0)] 0) S1=(.ptr S1.next 0,(nwP 87 8 (Tr.ofListFrom .nil [(.int .u32 0),(.int .u32 0),(.int .u32 0),(.int .u32 0),(.int .u32 0),(.int .u32 0),(.int .u32 0),(.int .u32 0)] 0) S1).2):=rfl;generalize (nwP 87 8 (Tr.ofListFrom .nil [(.int .u32 0),(.int .u32 0),(.int .u32 0),(.int .u32 0),(.int .u32 0),(.int .u32 0),(.int .u32 0),(.int .u32 0)] 0) S1).2=S2 at a1 a2 a3 ea;have on2:=a1.1;obtain⟨b1,b2,b3⟩:=Arr.newOf on2 89 64 (zeros 64 (List.replicate 64 (.int .u32 0)) rfl);have eb:nwP 89 64 (Tr.ofListFrom .nil (List.replicate 64 (.int .u32 0)) 0) S2=(.ptr S2.next 0,(nwP 89 64 (Tr.ofListFrom .nil (List.replicate 64 (.int .u32 0)) 0) S2).2):=rfl;generalize (nwP 89 64 (Tr.ofListFrom .nil (List.replicate 64 (.int .u32 0)) 0) S2).2=S3 at b1 b2 b3 eb;have on3:=b1.1;have n1:=p3.next
 have hH3:Arr S3 S1.next 87 8 _:=a1.grew (by omega) (fun h=>h) b2
 have hR3:=(hR.grew hr (fun h=>h) a2).grew (by omega) (fun h=>h) b2;obtain⟨S4,c1,c2,c3,c4⟩:=L67_spec hK (m:=m) (N:=qa1) (r:=r) (hb:=S1.next) (kb:=S2.next) (v0:=sv s) (by omega) (by omega) (by omega) (R58_5 (ev E0 K (m+3)) qa1 (qat E0 (ev E0 K (m+3)) Tryz.f58) qad) (exB 0 (R58_5 (ev E0 K (m+3)) qa1 (qat E0 (ev E0 K (m+3)) Tryz.f58) qad) qad) 64 0 qa1 _ _ S3 rfl (by unfold qa1; omega) hR3 (by omega) hH3 (by omega) b1 (by omega) (fun j hj=>by omega) (fun j hj=>by omega);have on4:=c2.1;have n4:=c4.next
 obtain⟨S5,d1,d2⟩:=padded_run hK (m+2) on4 s hs;have n5:=d2.next
 have hH5:=c2.grew (by omega) (fun h=>h) d2;have hK5:=c3.grew (by omega) (fun h=>h) d2;obtain⟨c,hc,hc0,hcl⟩:=padded_len s;have hdiv:(qeu s).length/64=c:=by omega
 obtain⟨S6,e1,e2,e3⟩:=L48v_spec hK hLg (m:=m+1) (N:=qa1) (hb:=S1.next) (kb:=S2.next) (by omega) (p:=qeu s) (by omega) (R58_9 (ev E0 K (m+3)) qa1 (fun a s=>qa7 [2] a fun a=>qat E0 (ev E0 K (m+3)) Tryz.f58 a s) qad) (exB 2 (R58_9 (ev E0 K (m+3)) qa1 (fun a s=>qa7 [2] a fun a=>qat E0 (ev E0 K (m+3)) Tryz.f58 a s) qad) qad) c 0 qa1 hW S5 (by omega) (by unfold qa1; omega) hH5 (by omega) hK5 (by omega);have on6:=e2.1;have n6:=e3.next
 obtain⟨S7,f1,f2,f3,f4⟩:=make_out on6;have hH7:=e2.grew (by omega) (fun h=>h) f3;obtain⟨S8,g1,g2,g3,g4⟩:=L17v_spec (K:=K) (m:=m+3) (N:=qa1) (hb:=S1.next) (r:=S6.next) (by omega) (R58_12 (ev E0 K (m+3)) qa1 (fun a s=>qa7 [2] a fun a=>(fun a s=>qa7 [2] a fun a=>qat E0 (ev E0 K (m+3)) Tryz.f58 a s) a s) qad) (exB 4 (R58_12 (ev E0 K (m+3)) qa1 (fun a s=>qa7 [2] a fun a=>(fun a s=>qa7 [2] a fun a=>qat E0 (ev E0 K (m+3)) Tryz.f58 a s) a s) qad) qad) 8 0 qa1 [] S7 rfl (by unfold qa1; omega) hH7 (by omega) f2 (by omega) rfl
 have hout:([]:Bs)++qf2 (qk5 kW (qeu s) c 0 hW) 8 0=sumB s:=by
  unfold sumB;rw[List.nil_append,hdiv]
 rw[hout]at g2;have hl:=qjt s;have hcv:=conv_slice g3 (c:=32) g2 (fun e=>by rw[e]at hl; cases hl);rw[hl]at hcv;refine⟨S8,rv58 hK ?_,?_⟩
 . show F58 (ev E0 K (m+3)) qa1 (sv s) S=_
   rw[F58_eq,p1,callP_ret,show(Tr.ofListFrom .nil [(.int .u32 0),(.int .u32 0),(.int .u32 0),(.int .u32 0),(.int .u32 0),(.int .u32 0),(.int .u32 0),(.int .u32 0)] 0:Tr V)=Tr.ofListFrom .nil [(.int .u32 0),(.int .u32 0),(.int .u32 0),(.int .u32 0),(.int .u32 0),(.int .u32 0),(.int .u32 0),(.int .u32 0)] 0 from rfl,ea,oB];dsimp only;rw[show(Tr.ofListFrom .nil z64q 0:Tr V)=Tr.ofListFrom .nil (List.replicate 64 (.int .u32 0)) 0 from rfl,eb,oB];dsimp only
   rw[show V.int .i64 0=.int .i64 ((0:Nat):Int)from rfl];refine c1.trans ?_;rw[exB_same,R58_5_eq,d1,callP_ret,show V.int .i64 0=.int .i64 ((0:Nat):Int)from rfl];refine e1.trans ?_;rw[exB_same,R58_9_eq,f1,oB];dsimp only;rw[show V.int .i64 0=.int .i64 ((0:Nat):Int)from rfl];refine Eq.trans g1 ?_;rw[exB_same,R58_12_eq,hcv,oB]
 . have g01:Grew (fun _=>False) S S3:=Grew.then (Grew.then (Grew.then (Grew.refl (fun _=>False) S) p3 fun x hx e=>by omega) a2 fun _ _ h=>h) b2 fun _ _ h=>h
   exact Grew.then (Grew.then (Grew.then (Grew.then (Grew.then g01 c4 fun x hx e=>by rcases e with e|e<;>omega) d2 fun _ _ h=>h) e3 fun x hx e=>by omega) f3 fun _ _ h=>h) g4 fun x hx e=>by omega
def bitN (sum:Bs) (j:Nat):Nat:=(sum.getD (j/8) 0).toNat/2^(7-j%8)%2
theorem bit_run (hK:RefK K) (m:Nat) (sum:Bs) (hs:sum.length=32) {j:Nat} (hj:j<256) (S:St):(ev E0 K (m+1)).f 59 [sv sum,.int .i64 (j:Int)] S=some (.ret (.int .i64 (bitN sum j:Int)),S):=by
 refine rv59 hK ?_;show F59 (ev E0 K m) qa1 _ _ S=_
 have hq:qa4 E0 .quo 3 false true (.int .i64 (j:Int)) (.int .i64 8)=some (.int .i64 ((j/8:Nat):Int)):=by
  rw[binV_ii,qj7 _ _ _ (by decide),show(j:Int).tdiv 8=((j/8:Nat):Int) by rw[Int.tdiv_eq_ediv_of_nonneg (by omega)]; omega,qbg (by omega) (by omega)]
 have hr:qa4 E0 .rem 3 false true (.int .i64 (j:Int)) (.int .i64 8)=some (.int .i64 ((j%8:Nat):Int)):=by
  rw[binV_ii,qgt _ _ _ (by decide),Int.tmod_eq_emod_of_nonneg (by omega)]
  congr 2
 have hc:=(sum.getD (j/8) 0).toNat_lt
 have hsh:∀a n:Nat,n<=64->qa4 E0 .shr 3 false false (.int .i64 (a:Int)) (.int .i64 (n:Int))=some (.int .i64 ((a/2^n:Nat):Int)):=fun a n hn=>by
  show some (V.int .i64 ((a:Int).fdiv (.ofNat (2^min n 64))))=_;rw[Nat.min_eq_left hn,show(a:Int).fdiv (Int.ofNat (2^n))=(a:Int)/((2^n:Nat):Int)from Int.fdiv_eq_ediv_of_nonneg _ (Int.natCast_nonneg _)];rfl
 have hand:∀a:Nat,a<256->qa4 E0 .and 3 false true (.int .i64 (a:Int)) (.int .i64 1)=some (.int .i64 ((a%2:Nat):Int)):=fun a ha=>by
  show some (V.int .i64 (qdu .i64 (Nat.land (qcc .i64 (a:Int)) (qcc .i64 1))))=_
  have e1:qcc .i64 (a:Int)=a:=by
   show a%qbo .i64=_;rw[show qbo .i64=18446744073709551616 from rfl]; omega
  have e2:Nat.land a 1=a%2:=Nat.and_one_is_mod a;rw[e1,show qcc .i64 1=1 from rfl,e2];unfold qdu;rw[show Nat.blt (a%2) (qdb .i64)=true from blt_true.2 (by show a%2<9223372036854775808; omega)]; rfl
 have hd:∀n:Nat,(sum.getD (j/8) 0).toNat/2^n<256:=fun n=>Nat.lt_of_le_of_lt (Nat.div_le_self _ _) hc;rw[F59_eq,hq,oB,ixG sum (by omega),oB,cvI_int,qbg (by omega) (by omega),oB];dsimp only;rw[hr,oB,sub7 (by omega),oB,hsh _ _ (by omega),oB,hand _ (hd _),oB];rfl
def nbF (sum:Bs) (i:Nat):Nat->Nat->Nat->Nat
 | 0,_,n=>n
 | d+1,k,n=>nbF sum i d (k+1) (2*n+bitN sum (5*i+k))
def refH (sum:Bs):Nat->Nat->Bs
 | 0,_=>[]
 | d+1,i=>qhu (nbF sum i 5 0 0)::refH sum d (i+1)
end
end Go.Proofs.YtpgegoeghaplkaaGreatDoor.W
