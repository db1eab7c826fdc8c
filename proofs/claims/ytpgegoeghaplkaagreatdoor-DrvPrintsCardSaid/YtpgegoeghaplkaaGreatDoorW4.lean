/-
  WHAT THE FUNCTIONS COME TO: each is read by the evaluator,printed,and told as a function of data,part 4 of 15 (no condition).
-/
import Derived.Test.YtpgegoeghaplkaaGreatDoorW3
import Derived.Test.YtpgegoeghaplkaaGreatDoorShelf
import Derived.Shelf.Spec.BitsCarry
import Derived.Test.YtpgegoeghaplkaaGreatDoorProg
import Derived.Test.YtpgegoeghaplkaaGreatDoorChecked
import Derived.WalkKit
import Derived.ProofKit
noncomputable section
namespace Go.Proofs.YtpgegoeghaplkaaGreatDoor.W
open Go.Proofs.YtpgegoeghaplkaaGreatDoor.Ev Go.RowKit
theorem qbm {E:Env} {self:EV} {f:FuncId} (h:E.ext.get f=none) (hb:qb5 E f=true) (x y args:List V) (S:St):qc8 E self (.fn (.func f) x y) args S=self.f f (x++args++y) S:=by
 show(match E.ext.get f with|some k=>_|none=>_)=_;rw[h];show(bif qb5 E f then self.f f (x++args++y) S else none)=_;rw[hb]; rfl
theorem qa5 {S:St} (l:Bs):qbr (sv l) S=some (.int .i64 (l.length:Int),S):=lnStr_sv l
theorem nilP (b o:Nat):qbn (.ptr b o)=some (.ptr b o):=rfl
theorem ex0 (a:V) (l:List V):qab (.tuple (a::l)) 0=some a:=rfl
theorem ex1 (a b:V) (l:List V):qab (.tuple (a::b::l)) 1=some b:=rfl
theorem ex2 (a b c:V) (l:List V):qab (.tuple (a::b::c::l)) 2=some c:=rfl
section
variable {S T U:St}
theorem f82_run (m:Nat) (S:St) (ho:S.on=false):∃U r,(ev E0 K2 (m+1)).f 65 [] S=some (.ret (.map r),U)/\Keys U r ltrs/\S.next<=r/\Grew (fun _=>False) S U:=by
 have g1:Grew (fun _=>False) S (nw S (.map [] 0)):=qca ho _ _;have k1:Keys (nw S (.map [] 0)) S.next (ltrs.take 0):=⟨by show S.next<S.next+1; omega,[],⟨[],0,by rw[qdv,iP rfl],MapOk.new⟩,fun _=>rfl⟩
 obtain⟨U,b1,b2,b3⟩:=L56_spec (self:=ev E0 K2 m) (N:=qa1) (R65_3 (ev E0 K2 m) qa1 (qat E0 (ev E0 K2 m) Tryz.f65) qad) (exB 0 (R65_3 (ev E0 K2 m) qa1 (qat E0 (ev E0 K2 m) Tryz.f65) qad) qad) 32 0 qa1 _ (g1.on.trans ho) rfl (by unfold qa1; omega) k1;refine⟨U,S.next,rd82 ?_,b2,lR _,g1.own (lR _) b3⟩;show F65 (ev E0 K2 m) qa1 S=_;rw[F65_eq,show qlo E0 80 none S=some (.map S.next,nw S (.map [] 0))from rfl,oB];dsimp only;rw[show V.int .i64 0=.int .i64 ((0:Nat):Int)from rfl,b1,exB_same,R65_3_eq]
theorem f65_run (m:Nat) (S:St) (ho:S.on=false) (h:Bs) (hh:h.length<9223372036854775808):∃U,(ev E0 K2 (m+2)).f 34 [sv h] S=some (.ret (.bool (isH h)),U)/\Grew (fun _=>False) S U:=by
 obtain⟨U,r,a1,a2,a3,a4⟩:=f82_run m S ho;refine⟨U,rd65 ?_,a4⟩;show F34 (ev E0 K2 (m+1)) qa1 (sv h) S=_;rw[F34_eq,a1,callP_ret,qa5,oB];dsimp only;rw[show V.int .i64 0=.int .i64 ((0:Nat):Int)from rfl,L30_spec _ _ h (by omega) a2 (a4.on.trans ho) h 0 qa1 rfl (by unfold qa1; omega)];unfold isH;cases hb:h.all (fun c=>ltrs.contains c)with
 | false=>rw[iN (by simp),Bool.and_false]
 | true=>
  rw[iP rfl,exB_same,R34_3_eq,qa5,oB];dsimp only;rw[show V.int .i64 32=.int .i64 ((32:Nat):Int)from rfl,binV_ii,intsV_eql,oB,Bool.and_true]
  congr 5
  simp;omega
def inB (lo hi:Nat) (c:UInt8):Bool:=decide (lo<=c.toNat)&&decide (c.toNat<=hi)
theorem qle (a:Nat) (c:UInt8):qa4 E0 .geq 5 false true (.int .u8 (c.toNat:Int)) (.int .u8 (a:Int))=some (.bool (decide (a<=c.toNat))):=by
 rw[binV_ii,intsV_geq]
 congr 2
 simp
theorem qo0 (a:Nat) (c:UInt8):qa4 E0 .leq 5 false true (.int .u8 (c.toNat:Int)) (.int .u8 (a:Int))=some (.bool (decide (c.toNat<=a))):=by
 rw[binV_ii,intsV_leq]
 congr 2
 simp
theorem f44_run (m:Nat) (S:St) (c:UInt8):(ev E0 K2 (m+1)).f 66 [.int .u8 (c.toNat:Int)] S=some (.ret (.bool (inB 97 122 c)),S):=rd44 (by
 show F66 (ev E0 K2 m) qa1 (.int .u8 (c.toNat:Int)) S=_;rw[F66_eq,show V.int .u8 97=.int .u8 ((97:Nat):Int)from rfl,show V.int .u8 122=.int .u8 ((122:Nat):Int)from rfl,qle,oB,qah,oB,inB];cases decide (97<=c.toNat)with
 | false=>rfl
 | true=>rw[cT,oB,oB,cT,qo0]; rfl)
theorem f45_run (m:Nat) (S:St) (c:UInt8):(ev E0 K2 (m+1)).f 67 [.int .u8 (c.toNat:Int)] S=some (.ret (.bool (inB 65 90 c)),S):=rd45 (by
 show F67 (ev E0 K2 m) qa1 (.int .u8 (c.toNat:Int)) S=_;rw[F67_eq,show V.int .u8 65=.int .u8 ((65:Nat):Int)from rfl,show V.int .u8 90=.int .u8 ((90:Nat):Int)from rfl,qle,oB,qah,oB,inB];cases decide (65<=c.toNat)with
 | false=>rfl
 | true=>rw[cT,oB,oB,cT,qo0]; rfl)
theorem f46_run (m:Nat) (S:St) (c:UInt8):(ev E0 K2 (m+1)).f 68 [.int .u8 (c.toNat:Int)] S=some (.ret (.bool (inB 48 57 c)),S):=rd46 (by
 show F68 (ev E0 K2 m) qa1 (.int .u8 (c.toNat:Int)) S=_;rw[F68_eq,show V.int .u8 48=.int .u8 ((48:Nat):Int)from rfl,show V.int .u8 57=.int .u8 ((57:Nat):Int)from rfl,qle,oB,qah,oB,inB];cases decide (48<=c.toNat)with
 | false=>rfl
 | true=>rw[cT,oB,oB,cT,qo0]; rfl)
theorem f48_run (m:Nat) (S:St) (s:Bs) (c:UInt8):(ev E0 K2 (m+2)).f 70 [sv s,.int .u8 (c.toNat:Int)] S=some (.ret (.int .i64 (ixB s c)),S):=rd48 (by
 show F70 (ev E0 K2 (m+1)) qa1 (sv s) (.int .u8 (c.toNat:Int)) S=_
 rw[F70_eq,rd64 (F64_spec (ev E0 K2 m) qa1 s c S),callP_ret])
def qnb (c:UInt8):Bool:=decide (0<=ixB [43,45,46,95] c)
theorem f47_run (m:Nat) (S:St) (c:UInt8):(ev E0 K2 (m+3)).f 69 [.int .u8 (c.toNat:Int)] S=some (.ret (.bool (qnb c)),S):=rd47 (by
 show F69 (ev E0 K2 (m+2)) qa1 (.int .u8 (c.toNat:Int)) S=_;rw[F69_eq,f48_run,callP_ret,binV_ii,intsV_geq]
 rfl)
def ql8 (c:UInt8):Bool:=inB 97 122 c||(inB 65 90 c||(inB 48 57 c||qnb c))
theorem L49_spec {self:EV} {N:Nat} (nk:Ac->St->Rs) (ek:Nat->Ac->St->Rs) {r:Nat} (ho:S.on=false) (x:V) (g:V->Bool) (fs:List V) (hf:∀f∈fs,qc8 E0 self f [x] S=some (.ret (.bool (g f)),S)) (hr:RowAt S r 83 1 (fs.map Ev.one)) (hk:fs.length<1000) :
 ∀(q:List V) (i n:Nat),fs.drop i=q->q.length<n->
 L71_6 self N nk ek n x (.slice r 0 fs.length fs.length) (.int .i64 (fs.length:Int)) (.int .i64 (i:Int)) S=if q.any g then some (.ret (.bool true),S)else ek 0 (fr 17 []) S
 | _,_,0,_,hn=>by omega
 | [],i,n+1,hi,_=>by
  rw[L71_6_eq,qds,dF (Nat.not_lt.2 (qau hi)),oB,ifK_bool,cF];rfl
 | f::q,i,n+1,hi,hn=>by
  obtain⟨hlt,hc,hr',hm⟩:=qba hi;have ih:=L49_spec (N:=N) nk ek ho x g fs hf hr hk q (i+1) n hr' (by simpa using hn);have hl:ld1 (.ptr r i) S=some (f,S):=hr.ld1 ho (by rw[List.getElem?_map,List.getElem?_eq_getElem hlt,hc]; rfl);rw[L71_6_eq,qds,dT hlt,oB,ifK_bool,cT,ixP_sl r fs.length i hlt,oB,hl,oB];dsimp only;rw[hf f hm,callP_ret,ifK_bool,List.any_cons];cases g f with
  | true=>rfl
  | false=>rw[cF,qc1 (by omega),oB,ih,Bool.false_or]
def fns4:List V:=[.fn (.func 66) [] [],.fn (.func 67) [] [],.fn (.func 68) [] [],.fn (.func 69) [] []]
theorem body44:(E0.ext.get 66=none/\qb5 E0 66=true)/\(E0.ext.get 67=none/\qb5 E0 67=true)/\(E0.ext.get 68=none/\qb5 E0 68=true)/\(E0.ext.get 69=none/\qb5 E0 69=true):=⟨⟨by kernel_rfl,by kernel_rfl⟩,⟨by kernel_rfl,by kernel_rfl⟩,⟨by kernel_rfl,by kernel_rfl⟩,by kernel_rfl,by kernel_rfl⟩
def gF (c:UInt8) (f:V):Bool:=match f with
 | .fn (.func 66) _ _=>inB 97 122 c
 | .fn (.func 67) _ _=>inB 65 90 c
 | .fn (.func 68) _ _=>inB 48 57 c
 | _=>qnb c
theorem f49_run (ho:S.on=false) (m:Nat) {r:Nat} (c:UInt8) (h:RowAt S r 83 1 (fns4.map Ev.one)):(ev E0 K2 (m+4)).f 71 [.int .u8 (c.toNat:Int),.slice r 0 4 4] S=some (.ret (.bool (ql8 c)),S):=rd49 (by
 show F71 (ev E0 K2 (m+3)) qa1 (.int .u8 (c.toNat:Int)) (.slice r 0 4 4) S=_
 have hf:∀f∈fns4,qc8 E0 (ev E0 K2 (m+3)) f [.int .u8 (c.toNat:Int)] S=some (.ret (.bool (gF c f)),S):=fun f hf=>by
  simp only[fns4,List.mem_cons,List.not_mem_nil,or_false]at hf;rcases hf with rfl|rfl|rfl|rfl
  . rw[qbm body44.1.1 body44.1.2]; exact f44_run (m+2) S c
  . rw[qbm body44.2.1.1 body44.2.1.2]; exact f45_run (m+2) S c
  . rw[qbm body44.2.2.1.1 body44.2.2.1.2]; exact f46_run (m+2) S c
  . rw[qbm body44.2.2.2.1 body44.2.2.2.2]; exact f47_run m S c
 have hL:=L49_spec (self:=ev E0 K2 (m+3)) (N:=qa1) (R71_1 (ev E0 K2 (m+3)) qa1 (qat E0 (ev E0 K2 (m+3)) Tryz.f71) qad) (exB 0 (R71_1 (ev E0 K2 (m+3)) qa1 (qat E0 (ev E0 K2 (m+3)) Tryz.f71) qad) qad) ho _ (gF c) fns4 hf h (by decide) fns4 0 qa1 rfl (by unfold qa1 fns4; simp);rw[F71_eq,qjc (n:=4) (fun _ _ e=>by cases e) rfl,oB];refine Eq.trans hL ?_
 have hg:fns4.any (gF c)=ql8 c:=by
  unfold fns4 ql8;simp only[List.any_cons,List.any_nil,Bool.or_false];rfl
 rw[hg];cases ql8 c with
 | true=>rfl
 | false=>rw[iN (by simp),exB_same,R71_1_eq])
def chkN (s:Bs):Int:=if 20<s.length then 3 else if s.all ql8 then(if s=[]\/s.head?=some 46 then 2 else 0)else 2
def qf0 (s:Bs):Bool:=chkN s==0
theorem L22_spec {m N:Nat} (s:Bs) (hs:s.length<=20) (nk:Ac->St->Rs) (ek:Nat->Ac->St->Rs) :
 ∀(q:Bs) (i n:Nat) (S:St),S.on=false->s.drop i=q->q.length<n->
 ∃U,L35_22 (ev E0 K2 (m+4)) N nk ek n (sv s) (.fn (.func 66) [] []) (.fn (.func 67) [] []) (.fn (.func 68) [] []) (.fn (.func 69) [] []) (.int .i64 (s.length:Int)) (.int .i64 (i:Int)) S=(if q.all ql8 then ek 0 (fr 34 [(0,sv s)]) U else some (.ret (.int .i64 2),U))/\Grew (fun _=>False) S U
 | _,_,0,_,_,_,hn=>by omega
 | [],i,n+1,S,ho,hi,_=>by
  refine⟨S,?_,Grew.refl _ _⟩;rw[L35_22_eq,qds,dF (Nat.not_lt.2 (qau hi)),oB,ifK_bool,cF];rfl
 | c::q,i,n+1,S,ho,hi,hn=>by
  obtain⟨hlt,hc,hr',hm⟩:=qba hi
  obtain⟨S1,a1,a2,a3,a4⟩:=qe5 ho 83 (Ev.one .nilfn) fns4 (fun v hv=>by
   simp only[fns4,List.mem_cons,List.not_mem_nil,or_false]at hv
   rcases hv with rfl|rfl|rfl|rfl<;>exact⟨rfl,rfl,rfl,rfl⟩) (by show 4<big; unfold big; decide)
  have a1':bsP 83 1 4 (Ev.one .nilfn) [(0,.fn (.func 66) [] []),(1,.fn (.func 67) [] []),(2,.fn (.func 68) [] []),(3,.fn (.func 69) [] [])] S=some (.slice S.next 0 4 4,S1):=a1 none;have on1:=a3.on.trans ho;obtain⟨U,b1,b2⟩:=L22_spec (m:=m) (N:=N) s hs nk ek q (i+1) n S1 on1 hr' (by simpa using hn);rw[L35_22_eq,qds,dT hlt,oB,ifK_bool,cT,qci s .i64 i hlt,oB,a1',oB];dsimp only;rw[hc,f49_run on1 m c a2,callP_ret,unV_not,oB,ifK_bool,List.all_cons];cases ql8 c with
  | false=>exact⟨S1,rfl,a3⟩
  | true=>
   rw[Bool.not_true,cF,qc1 (by omega),oB,b1,Bool.true_and];exact⟨U,rfl,a3.trans b2⟩
theorem f22_run (ho:S.on=false) (m:Nat) (s:Bs) (hs:s.length<9223372036854775808):∃U,(ev E0 K2 (m+5)).f 35 [sv s] S=some (.ret (.int .i64 (chkN s)),U)/\Grew (fun _=>False) S U:=by
 have hgt:qa4 E0 .gtr 3 false true (.int .i64 (s.length:Int)) (.int .i64 20)=some (.bool (decide (20<s.length))):=by
  rw[binV_ii,intsV_gtr]
  congr 2
  simp;omega
 by_cases h20:20<s.length
 . refine⟨S,rd22 ?_,Grew.refl _ _⟩
   show F35 (ev E0 K2 (m+4)) qa1 (sv s) S=_;rw[F35_eq,qa5,oB];dsimp only;rw[hgt,dT h20,oB,ifK_bool,cT,chkN,iP h20]
 . obtain⟨U,b1,b2⟩:=L22_spec (m:=m) (N:=qa1) s (by omega) (R35_9 (ev E0 K2 (m+4)) qa1 (qat E0 (ev E0 K2 (m+4)) Tryz.f35) qad) (exB 0 (R35_9 (ev E0 K2 (m+4)) qa1 (qat E0 (ev E0 K2 (m+4)) Tryz.f35) qad) qad) s 0 qa1 S ho rfl (by unfold qa1; omega)
   refine⟨U,rd22 ?_,b2⟩;show F35 (ev E0 K2 (m+4)) qa1 (sv s) S=_;rw[F35_eq,qa5,oB];dsimp only;rw[hgt,dF h20,oB,ifK_bool,cF,qa5,oB];dsimp only;rw[show V.int .i64 0=.int .i64 ((0:Nat):Int)from rfl,b1,chkN,iN h20];cases hb:s.all ql8 with
   | false=>rw[iN (by simp),iN (by simp)]
   | true=>
    rw[iP rfl,iP rfl,exB_same,R35_9_eq,eqStr,oB,qag,oB];cases s with
    | nil=>rfl
    | cons c s=>
     rw[show((c::s)==([]:Bs))=false from rfl,nF,cT,oB,oB,cT,show V.int .i64 0=.int .i64 ((0:Nat):Int)from rfl,qci (c::s) .i64 0 (by simp),oB,oB,cT,show V.int .u8 46=.int .u8 ((46:Nat):Int)from rfl,binV_ii,intsV_eql,oB,pickV_bool,cF,oB,ifK_bool];by_cases hc:c=46
     . subst hc; rfl
     . have:¬((c.toNat:Int)=((46:Nat):Int)):=fun e=>hc (UInt8.toNat_inj.1 (by show c.toNat=46; omega))
       rw[List.getElem_cons_zero,dF this,cF,iN (by simp[hc])]; rfl
end
section
variable {S T U:St}
def qb1 (s:Bs):Bool:=(decide (32<s.length)&&s[32]?==some 45)&&(isH (s.take 32)&&qf0 (s.drop 33))
theorem u8neq (a:Nat) (ha:a<256) (c:UInt8):qa4 E0 .neq 5 false true (.int .u8 (c.toNat:Int)) (.int .u8 (a:Int))=some (.bool (!(c==UInt8.ofNat a))):=by
 rw[binV_ii,intsV_neq]
 congr 3
 by_cases h:c=UInt8.ofNat a
 . rw[h,UInt8.toNat_ofNat',show a%2^8=a by omega]; simp
 . have:¬((c.toNat:Int)=(a:Int)):=fun e=>h (UInt8.toNat_inj.1 (by rw[UInt8.toNat_ofNat']; omega))
   rw[dF this];exact(beq_false_of_ne h).symm
theorem qk8 (s:Bs):qa4 E0 .neq 27 false true (.int .i64 (chkN s)) (.int .i64 0)=some (.bool (!qf0 s)):=by
 have hu:qa4 E0 .neq 27 false true (.int .i64 (chkN s)) (.int .i64 0)=some (.bool (!decide (chkN s=0))):=by
  rw[binV_ii,intsV_neq]
 rw[hu];rfl
theorem f50_run (ho:S.on=false) (m:Nat) (s:Bs) (hs:s.length<4611686018427387904):∃U a b,(ev E0 K2 (m+6)).f 12 [sv s] S=some (.ret (.tuple [a,b,.int .i64 (if qb1 s then 0 else 4)]),U)/\Grew (fun _=>False) S U:=by
 have hle:qa4 E0 .leq 3 false true (.int .i64 (s.length:Int)) (.int .i64 32)=some (.bool (decide (s.length<=32))):=by
  rw[binV_ii,intsV_leq]
  congr 2
  simp;omega
 by_cases h32:s.length<=32
 . refine⟨S,sv [],sv [],rd50 ?_,Grew.refl _ _⟩
   show F12 (ev E0 K2 (m+5)) qa1 (sv s) S=_;rw[F12_eq,qa5,oB];dsimp only;rw[hle,dT h32,oB];have:qb1 s=false:=by unfold qb1; rw[dF (by omega)]; rfl
   rw[this];rfl
 . have h33:32<s.length:=by omega
   suffices hmain:∃U a b,F12 (ev E0 K2 (m+5)) qa1 (sv s) S=some (.ret (.tuple [a,b,.int .i64 (if qb1 s then 0 else 4)]),U)/\Grew (fun _=>False) S U by
    obtain⟨U,a,b,h1,h2⟩:=hmain;exact⟨U,a,b,rd50 h1,h2⟩
   rw[F12_eq,qa5,oB];dsimp only;rw[hle,dF h32,oB,qag,oB,nF,cT,oB,oB,cT,show V.int .i64 32=.int .i64 ((32:Nat):Int)from rfl,qci s .i64 32 h33,oB,oB,cT,show V.int .u8 45=.int .u8 ((45:Nat):Int)from rfl,u8neq 45 (by decide),oB,pickV_bool,cF,oB,ifK_bool];by_cases h45:s[32]=45
   . rw[h45,show(!((45:UInt8)==UInt8.ofNat 45))=false from rfl,cF,qda und9 s (qep .i64 (show 32<=s.length by omega)) (by omega),oB]
     dsimp only;rw[show V.int .i64 33=.int .i64 ((33:Nat):Int)from rfl,qda und9 s (qfi .i64 (show 33<=s.length by omega)) (lR _),oB];dsimp only;rw[List.drop_zero,Nat.sub_zero,show List.take (s.length-33) (s.drop 33)=s.drop 33 from List.take_of_length_le (by rw[List.length_drop]; exact lR _),qb3 (by rfl),qih,qih,qjq ho];obtain⟨U1,a1,a2⟩:=f65_run (m+3) S ho (s.take 32) (by rw[List.length_take]; omega);rw[a1,callP_ret,unV_not,oB,qag,oB,Bool.not_not]
     have hp:qb1 s=(isH (s.take 32)&&qf0 (s.drop 33)):=by
      unfold qb1;rw[dT h33,List.getElem?_eq_getElem h33,h45];rfl
     rw[hp];cases hi:isH (s.take 32)with
     | false=>exact⟨U1,_,_,rfl,a2⟩
     | true=>
      obtain⟨U2,b1,b2⟩:=f22_run (a2.on.trans ho) m (s.drop 33) (by rw[List.length_drop]; omega);rw[cT,oB,oB,cT,b1,callP_ret,oB,cT,qk8,oB,Bool.not_true,pickV_bool,cF,oB,ifK_bool,Bool.true_and];cases qf0 (s.drop 33)with
      | false=>exact⟨U2,_,_,rfl,a2.trans b2⟩
      | true=>exact⟨U2,_,_,rfl,a2.trans b2⟩
   . have h45':(s[32]==UInt8.ofNat 45)=false:=beq_false_of_ne h45
     have hp:qb1 s=false:=by
      unfold qb1;rw[List.getElem?_eq_getElem h33];have:(some s[32]==some (45:UInt8))=false:=by simpa using h45
      rw[this,Bool.and_false]; rfl
     rw[h45',hp];exact⟨S,_,_,rfl,Grew.refl _ _⟩
theorem f23_run (ho:S.on=false) (m:Nat) (s:Bs) (hs:s.length<4611686018427387904):∃U,(ev E0 K2 (m+7)).f 44 [sv s] S=some (.ret (.bool (qb1 s)),U)/\Grew (fun _=>False) S U:=by
 obtain⟨U,a,b,a1,a2⟩:=f50_run ho m s hs;refine⟨U,rd23 ?_,a2⟩;show F44 (ev E0 K2 (m+6)) qa1 (sv s) S=_;rw[F44_eq,a1,callP_ret,ex0,oB,ex1,oB,ex2,oB];cases qb1 s<;>rfl
end
section
variable {S T U:St}
def Z256:Tr V:=Tr.ofListFrom .nil (List.replicate 256 (.bool false)) 0
theorem Z256_get (c:UInt8):Z256.get c.toNat=some (.bool false):=by
 unfold Z256;rw[Tr.get_ofList,List.getElem?_replicate,iP c.toNat_lt]
theorem F68z (self:EV) (N:Nat) (x0:V) (S:St):F110 self N x0 S =
(some (nwP 128 256 Z256 S)).bind fun p0=>
L110_8 self N (R110_2 self N (qat E0 self Tryz.f110) qad) (exB 0 (R110_2 self N (qat E0 self Tryz.f110) qad) qad) N x0 p0.1 (.int .i64 0) p0.2:=by kernel_rfl
theorem F52z (self:EV) (N:Nat) (x0:V) (s:Bs) (h0:qa4 E0 .eql 9 false true x0 (sv [])=some (.bool false)) (S:St):F90 self N x0 (sv hexL) S =
qaf (self.f 110 [sv hexL] S) fun t26 S26=>
(qab t26 0).bind fun t28=>
(qab t26 1).bind fun t29=>
(some (nwP 128 256 Z256 S26)).bind fun p30=>
(stP 256 p30.1 t28 p30.2).bind fun p31=>
ifK t29 (
qaf (self.f 112 [x0,p30.1] p31.2) fun t35 S35=>
qaf (self.f 111 [t35,p30.1] S35) fun t36 S36=>
some (.ret t36,S36)) (
qaf (self.f 114 [x0,sv hexL] p31.2) fun t40 S40=>
qaf (self.f 113 [t40,sv hexL] S40) fun t42 S42=>
some (.ret t42,S42)):=by
 rw[F90_eq,h0]
 kernel_rfl
theorem ixA_u8 (p:Nat) (c:UInt8):ixA 256 1 false 1 (.ptr p 0) (.int .u8 (c.toNat:Int))=some (.ptr p c.toNat):=by
 show(bif Nat.blt c.toNat 256 then some (V.ptr p (0+c.toNat*1))else none)=_;rw[blt_true.2 c.toNat_lt,cT,Nat.mul_one,Nat.zero_add]
theorem big256:256<big:=by unfold big; decide
def Mk (t:Tr V) (l:Bs):Prop:=∀c:UInt8,t.get c.toNat=some (.bool (l.contains c))
theorem L68_spec {self:EV} {N:Nat} (nk:Ac->St->Rs) (ek:Nat->Ac->St->Rs) {p:Nat} :
 ∀(q:Bs) (i n:Nat) (S:St) (t:Tr V),S.on=false->hexL.drop i=q->q.length<n->AgAt S p 128 256 t->Mk t (hexL.take i)->
 ∃U u,L110_8 self N nk ek n (sv hexL) (.ptr p 0) (.int .i64 (i:Int)) S=ek 0 (fr 21 [(2,.ptr p 0)]) U/\AgAt U p 128 256 u/\Mk u hexL/\Grew (fun x=>x=p) S U
 | _,_,0,_,_,_,_,hn,_,_=>by omega
 | [],i,n+1,S,t,ho,hi,_,hA,hM=>by
  refine⟨S,t,?_,hA,?_,Grew.refl _ _⟩
  . rw[L110_8_eq,qa5,oB]
    dsimp only;rw[qds,dF (Nat.not_lt.2 (qau hi)),oB,ifK_bool,cF]
  . rwa [List.take_of_length_le (qau hi)]at hM
 | c::q,i,n+1,S,t,ho,hi,hn,hA,hM=>by
  obtain⟨hlt,hc,hr',hm⟩:=qba hi;have h128:∀c∈hexL,decide (128<=c.toNat)=false:=by decide
  obtain⟨S1,a1,a2,a3,a4⟩:=hA.st1 ho big256 (by decide) (i:=c.toNat) c.toNat_lt (.bool true) rfl rfl rfl
  obtain⟨U,u,b1,b2,b3,b4⟩:=L68_spec (self:=self) (N:=N) nk ek q (i+1) n S1 (t.set (.bool true) c.toNat) (a3.on.trans ho) hr' (by simpa using hn) a2 (fun d=>by
   rw[qnw hlt,hc,Tr.get_set];by_cases e:d=c
   . subst e; rw[iP rfl]; simp
   . have:¬d.toNat=c.toNat:=fun q=>e (UInt8.toNat_inj.1 q)
     rw[iN this,hM d]
     simp[e])
  refine⟨U,u,?_,b2,b3,a3.trans b4⟩;have h128':qa4 E0 .geq 5 false true (.int .u8 (c.toNat:Int)) (.int .u8 128)=some (.bool false):=(qle 128 c).trans (by rw[h128 c hm]);rw[L110_8_eq,qa5,oB];dsimp only;rw[qds,dT hlt,oB,ifK_bool,cT,qci hexL .i64 i hlt,oB,hc,h128',oB,ifK_bool,cF,ixA_u8,oB,a1,oB];dsimp only;rw[qc1 (by have:hexL.length=16:=rfl; omega),oB,b1]
theorem f68_run (m:Nat) (S:St) (ho:S.on=false):∃U u,(ev E0 K2 (m+1)).f 110 [sv hexL] S=some (.ret (.tuple [.agg 256 u,.bool true]),U)/\Mk u hexL/\Grew (fun _=>False) S U:=by
 obtain⟨a1,a2,a3⟩:=qc7 ho 128 256 Z256;have on1:=a2.on.trans ho;obtain⟨U,u,b1,b2,b3,b4⟩:=L68_spec (self:=ev E0 K2 m) (N:=qa1) (R110_2 (ev E0 K2 m) qa1 (qat E0 (ev E0 K2 m) Tryz.f110) qad) (exB 0 (R110_2 (ev E0 K2 m) qa1 (qat E0 (ev E0 K2 m) Tryz.f110) qad) qad) hexL 0 qa1 _ _ on1 rfl (by unfold qa1 hexL; simp) a1 (fun c=>by rw[Z256_get]; rfl);obtain⟨W,c1,c2,c3,c4⟩:=b2.stA (b4.on.trans on1) big256 u;refine⟨W,u,rd68 ?_,b3,a2.own (lR _) (b4.trans c3)⟩;show F110 (ev E0 K2 m) qa1 (sv hexL) S=_;rw[F68z,oB,qet,show V.int .i64 0=.int .i64 ((0:Nat):Int)from rfl,b1,exB_same,R110_2_eq,b2.ldA (b4.on.trans on1) big256,oB];dsimp only;rw[c1,oB];dsimp only;rw[c2.ldrA (c3.on.trans (b4.on.trans on1)) big256,oB]
theorem f83_run (m:Nat) (ho:S.on=false) {p:Nat} {u:Tr V} (hA:AgAt S p 128 256 u) (hM:Mk u hexL) (c:UInt8):(ev E0 K2 (m+1)).f 124 [.ptr p 0,.int .u8 (c.toNat:Int)] S=some (.ret (.bool (isX c)),S):=rd83 (by
 show F124 (ev E0 K2 m) qa1 (.ptr p 0) (.int .u8 (c.toNat:Int)) S=_;rw[F124_eq,nilP,oB,ixA_u8,oB,hA.ld1 ho big256 c.toNat_lt (hM c),oB]
 rfl)
def trR (s:Bs):Bs:=(s.reverse.dropWhile isX).reverse
def trimB (s:Bs):Bs:=(trR s).dropWhile isX
theorem trR_len (s:Bs):(trR s).length<=s.length:=by
 unfold trR;rw[List.length_reverse];have:=(List.dropWhile_sublist isX (l:=s.reverse)).length_le
 rwa [List.length_reverse]at this
theorem L69_spec {m N:Nat} (ho:S.on=false) (nk:Ac->St->Rs) (ek:Nat->Ac->St->Rs) {p:Nat} {u:Tr V} (hA:AgAt S p 128 256 u) (hM:Mk u hexL) :
 ∀(s:Bs) (n:Nat),s.length<1000000->s.length<n->L111_4 (ev E0 K2 (m+1)) N nk ek n (sv s) (.ptr p 0) S=ek 0 (fr 16 [(0,sv (s.dropWhile isX))]) S
 | _,0,_,hn=>by omega
 | [],n+1,_,_=>by
  rw[L111_4_eq,qa5,oB];rfl
 | c::s,n+1,hl,hn=>by
  have hgt:qa4 E0 .gtr 3 false true (.int .i64 ((c::s).length:Int)) (.int .i64 0)=some (.bool true):=by
   rw[binV_ii,intsV_gtr]
   congr 2
   simp
  rw[L111_4_eq,qa5,oB];dsimp only;rw[hgt,oB,ifK_bool,cT,show V.int .i64 0=.int .i64 ((0:Nat):Int)from rfl,qci (c::s) .i64 0 (by simp),oB,List.getElem_cons_zero,f83_run m ho hA hM c,callP_ret,unV_not,oB,ifK_bool,List.dropWhile_cons];cases isX c with
  | false=>rfl
  | true=>
   rw[Bool.not_true,cF,show V.int .i64 1=.int .i64 ((1:Nat):Int)from rfl,qda und9 (c::s) (qfi .i64 (show 1<=(c::s).length by simp)) (lR _),oB];dsimp only;rw[show List.take ((c::s).length-1) (List.drop 1 (c::s))=s by simp,L69_spec ho nk ek hA hM s n (by simp at hl; omega) (by simpa using hn)];rfl
theorem L70_spec {m N:Nat} (ho:S.on=false) (nk:Ac->St->Rs) (ek:Nat->Ac->St->Rs) {p:Nat} {u:Tr V} (hA:AgAt S p 128 256 u) (hM:Mk u hexL) :
 ∀(k:Nat) (s:Bs) (n:Nat),s.length=k->k<1000000->k<n->L112_4 (ev E0 K2 (m+1)) N nk ek n (sv s) (.ptr p 0) S=ek 0 (fr 22 [(0,sv (trR s))]) S
 | _,_,0,_,_,hn=>by omega
 | 0,s,n+1,hk,_,_=>by
  rw[List.length_eq_zero_iff.1 hk,L112_4_eq,qa5,oB];rfl
 | k+1,s,n+1,hk,hl,hn=>by
  have hne:s≠[]:=fun e=>by rw[e]at hk; cases hk
  have hs:s=s.dropLast++[s.getLast hne]:=(List.dropLast_concat_getLast hne).symm
  have hgt:qa4 E0 .gtr 3 false true (.int .i64 (s.length:Int)) (.int .i64 0)=some (.bool true):=by
   rw[binV_ii,intsV_gtr]
   congr 2
   simp;omega
  have hsub:qa4 E0 .sub 3 false true (.int .i64 (s.length:Int)) (.int .i64 1)=some (.int .i64 ((k:Nat):Int)):=by
   rw[binV_ii,intsV_sub,qbg (by omega) (by omega)]
   congr 2
   omega
  have hlast:s[k]'(by omega)=s.getLast hne:=by
   rw[List.getLast_eq_getElem]
   congr 1
   omega
  have htr:trR s=if isX (s.getLast hne)then trR s.dropLast else s:=by
   unfold trR
   conv=>lhs; rw[hs]
   rw[List.reverse_append,List.reverse_singleton,List.singleton_append,List.dropWhile_cons];split
   . rfl
   . rw[List.reverse_cons,List.reverse_reverse]; exact hs.symm
  rw[L112_4_eq,qa5,oB];dsimp only;rw[hgt,oB,ifK_bool,cT,qa5,oB];dsimp only;rw[hsub,oB,qci s .i64 k (by omega),oB,hlast,f83_run m ho hA hM _,callP_ret,unV_not,oB,ifK_bool,htr];cases isX (s.getLast hne)with
  | false=>rfl
  | true=>
   rw[Bool.not_true,cF,qa5,oB];dsimp only;rw[hsub,oB,qda und9 s (qep .i64 (show k<=s.length by omega)) (by omega),oB];dsimp only;rw[List.drop_zero,Nat.sub_zero,show s.take k=s.dropLast by rw[List.dropLast_eq_take]; congr 1; omega,L70_spec ho nk ek hA hM k s.dropLast n (by rw[List.length_dropLast]; omega) (by omega) (by omega)];rfl
theorem f52_run (ho:S.on=false) (m:Nat) (s:Bs) (hs:s.length<1000000):∃U,F90 (ev E0 K2 (m+2)) qa1 (sv s) (sv hexL) S=some (.ret (sv (trimB s)),U)/\Grew (fun _=>False) S U:=by
 by_cases h0:s=[]
 . subst h0
   exact⟨S,by rw[F90_eq]; rfl,Grew.refl _ _⟩
 . obtain⟨S1,u,a1,a2,a3⟩:=f68_run (m+1) S ho
   have on1:=a3.on.trans ho;obtain⟨b1,b2,b3⟩:=qc7 on1 128 256 Z256;have on2:=b2.on.trans on1;obtain⟨S3,c1,c2,c3,c4⟩:=b1.stA on2 big256 u;have on3:=c3.on.trans on2;refine⟨S3,?_,a3.trans (b2.own (lR _) c3)⟩;rw[F52z (ev E0 K2 (m+2)) qa1 (sv s) s (by rw[eqStr]; simp[h0]) S,a1,callP_ret,ex0,oB,ex1,oB,oB,qet,c1,oB];dsimp only
   have h70:(ev E0 K2 (m+2)).f 112 [sv s,.ptr S1.next 0] S3=some (.ret (sv (trR s)),S3):=rd70 (by
    show F112 (ev E0 K2 (m+1)) qa1 (sv s) (.ptr S1.next 0) S3=_
    rw[F112_eq,L70_spec on3 _ _ c2 a2 s.length s qa1 rfl hs (by unfold qa1; omega),exB_same,R112_1_eq])
   have h69:(ev E0 K2 (m+2)).f 111 [sv (trR s),.ptr S1.next 0] S3=some (.ret (sv (trimB s)),S3):=rd69 (by
    show F111 (ev E0 K2 (m+1)) qa1 (sv (trR s)) (.ptr S1.next 0) S3=_;have:=trR_len s;rw[F111_eq,L69_spec on3 _ _ c2 a2 (trR s) qa1 (by omega) (by unfold qa1; omega),exB_same,R111_1_eq]
    rfl)
   rw[ifK_bool,cT,h70,callP_ret,h69,callP_ret]
end
theorem dw_nil {p:UInt8->Bool}:∀{s:Bs},s.dropWhile p=[]↔s.all p=true
 | []=>by simp
 | c::s=>by
  rw[List.dropWhile_cons,List.all_cons];cases p c with
  | true=>rw[iP rfl,Bool.true_and]; exact dw_nil
  | false=>simp
theorem dw_last {p:UInt8->Bool}:∀{s:Bs} {c:UInt8},p c=false->(s++[c]).dropWhile p≠[]
 | s,c,h,e=>by
  have:=dw_nil.1 e;rw[List.all_append,List.all_cons,h]at this;simp at this
theorem trim_nil (s:Bs):(trimB s==[])=s.all isX:=by
 have key:trimB s=[]↔s.all isX=true:=by
  unfold trimB trR;cases hd:s.reverse.dropWhile isX with
  | nil=>
   have:=dw_nil.1 hd;rw[List.all_reverse]at this;simp[this]
  | cons c l=>
   have hc:isX c=false:=by
    have:=List.head?_dropWhile_not isX s.reverse;rw[hd]at this;simpa using this
   rw[List.reverse_cons];refine⟨fun e=>absurd e (dw_last hc),fun e=>?_⟩;have:s.reverse.all isX=true:=by rw[List.all_reverse]; exact e
   rw[dw_nil.2 this]at hd;cases hd
 cases hs:s.all isX with
 | true=>rw[key.2 hs]; rfl
 | false=>exact beq_false_of_ne fun e=>by rw[key.1 e]at hs; cases hs
structure TrimIn where
 s:Bs
 hs:s.length<1000000
def kfTrim:KF:=qcw (fun p:TrimIn=>[sv p.s,sv hexL]) (fun p=>En.ret (sv (trimB p.s)))
theorem kfTrim_run (s:Bs) (hs:s.length<1000000) (S:St):kfTrim.run [sv s,sv hexL] S=some (.ret (sv (trimB s)),S):=
 qe3 (enc:=fun p:TrimIn=>[sv p.s,sv hexL]) (out:=fun p=>En.ret (sv (trimB p.s))) (fun p q h=>by
  simp only[List.cons.injEq,and_true]at h
  rw[qnv h]) ⟨s,hs⟩ S
section
variable {S T U:St} {v:V} {bs:Bs} {N b r n:Nat}
theorem big2:2<big:=by unfold big; decide
def Pre (S:St) (r n:Nat) (bs:Bs):Prop:=∃c,S.heap.get r=some (.cells 5 1 n false c)/\bs.length<=n/\n<1000000/\∀(i:Nat) b,bs[i]?=some b->c.get i=some (qbb b)
theorem Pre.grew {W:Nat->Prop} (h:Pre S r n bs) (hr:r<S.next) (hw:¬W r) (g:Grew W S T):Pre T r n bs:=by
 obtain⟨c,h1,h2⟩:=h;exact⟨c,by rw[g.keep r hr hw,h1],h2⟩
theorem Pre.ldN (h:Pre S r n bs) (ho:S.on=false):∀(k i:Nat),i+k<=bs.length->Ev.ldN r 1 k i S=some (((bs.drop i).take k).map qbb,S)
 | 0,i,_=>by simp[Ev.ldN]
 | k+1,i,hle=>by
  obtain⟨c,h1,h2,h3,h4⟩:=id h;have hlt:i<bs.length:=by omega
  have hk:ldK S r i 1=some (qbb bs[i],S):=by
   unfold ldK;rw[h1];dsimp only;rw[ble_true.2 (show i+1<=1*n by omega),blt_true.2 (show 1*n<big by unfold big; omega),Bool.and_self,cT];unfold qf3;rw[Nat.beq_refl,show Nat.beq (i%1) 0=true from beq_true.2 (Nat.mod_one i),Bool.and_self,cT,Nat.div_one,h4 i _ (List.getElem?_eq_getElem hlt),oB,qav ho]
  unfold Ev.ldN;rw[hk,oB];dsimp only;rw[Pre.ldN h ho k (i+1) (by omega),oB,List.drop_eq_getElem_cons hlt,List.take_succ_cons];rfl
theorem Pre.stN:∀(m:Bs) {S:St} {bs:Bs},Pre S r n bs->S.on=false->bs.length+m.length<=n->∃U,Ev.stN r 1 (m.map qbb) bs.length S=some U/\Pre U r n (bs++m)/\Grew (fun x=>x=r) S U/\U.next=S.next
 | [],S,bs,h,ho,_=>⟨S,rfl,by simpa using h,Grew.refl _ _,rfl⟩
 | x::m,S,bs,h,ho,hle=>by
  obtain⟨c,h1,h2,h3,h4⟩:=h;rw[List.length_cons]at hle
  have hk:stK S r bs.length 1 (qbb x)=some (S.put r (.cells 5 1 n false (c.set (qbb x) bs.length))):=by
   unfold stK;rw[h1];dsimp only;rw[ble_true.2 (show bs.length+1<=1*n by omega),blt_true.2 (show 1*n<big by unfold big; omega)];simp only[nF,Bool.and_self,cT];unfold qer;rw[Nat.beq_refl,show Nat.beq (bs.length%1) 0=true from beq_true.2 (Nat.mod_one _),Bool.and_self,cT,Nat.div_one,Tr.setC_eq,oB,qav ho]
  have hP:Pre (S.put r (.cells 5 1 n false (c.set (qbb x) bs.length))) r n (bs++[x]):=⟨_,by rw[qc0,iP rfl],by rw[lAq,List.length_singleton]; omega,h3,fun i b hb=>by
   rw[Tr.get_set];by_cases e:i=bs.length
   . subst e
     rw[iP rfl];simp at hb;rw[hb]
   . rw[iN e]
     have hlt:=(List.getElem?_eq_some_iff.1 hb).1;rw[lAq,List.length_singleton]at hlt;rw[List.getElem?_append_left (by omega)]at hb
     exact h4 i b hb⟩
  obtain⟨U,k1,k2,k3,k4⟩:=Pre.stN m hP ho (by rw[lAq,List.length_singleton]; omega);refine⟨U,?_,by simpa using k2,(qd8 r _).trans k3,k4⟩;rw[List.map_cons];unfold Ev.stN;rw[hk,oB];rw[lAq,List.length_singleton]at k1;exact k1
theorem pre_new (ho:S.on=false) (l:Bs) (hl:l.length<1000000):Pre (qae S 5 1 (l.map qbb)) S.next l.length l:=by
 refine⟨Tr.ofListFrom .nil (l.map qbb) 0,?_,lR _,hl,fun i b hb=>?_⟩
 . unfold qae
   rw[qdv,iP rfl,lM]
 . rw[Tr.get_ofList,List.getElem?_map,hb]; rfl
def BP (S:St) (v:V) (bs:Bs) (N:Nat):Prop:=(bs=[]/\v=.nilslice)\/∃r n,v=.oslice r 0 bs.length 1/\Pre S r n bs/\r<S.next/\N<=r
theorem BP.grew {W:Nat->Prop} (h:BP S v bs N) (g:Grew W S T) (hw:∀x,N<=x->x<S.next->¬W x):BP T v bs N:=by
 rcases h with h|⟨r,n,h1,h2,h3,h4⟩
 . exact .inl h
 . exact .inr ⟨r,n,h1,h2.grew h3 (hw r h4 h3) g,Nat.lt_of_lt_of_le h3 g.next,h4⟩
theorem BP.oneV (h:BP S v bs N):OneV v:=by
 rcases h with⟨_,rfl⟩|⟨r,n,rfl,_⟩<;>exact⟨rfl,rfl,rfl,rfl⟩
theorem BP.app (h:BP S v bs N) (ho:S.on=false) (hN:N<=S.next) {y:V} {l:Bs} (hy:lenV y=some l.length) (hf:qbc 1 l.length y S=some (l.map qbb,S)) (hl:bs.length+l.length<100000) :
 ∃w U,apP 5 1 1 v y S=some (w,U)/\BP U w (bs++l) N/\Grew (fun x=>N<=x) S U:=by
 have hm:∀k,lenV v=some k->k=bs.length->apP 5 1 1 v y S=qc3 5 1 l.length v y S:=fun k hk e=>by
  unfold apP;rw[hy,oB,hk,oB,blt_true.2 (show(k+l.length)*(1+1+1)<qac by unfold qac; omega),cT]
 rcases h with⟨rfl,rfl⟩|⟨r,n,rfl,h2,h3,h4⟩
 . rw[hm 0 rfl rfl]
   unfold qc3;rw[hf,oB];dsimp only;by_cases h0:l=[]
   . subst h0
     exact⟨_,S,rfl,.inl ⟨rfl,rfl⟩,Grew.refl _ _⟩
   . have hlp:0<l.length:=List.length_pos_iff.2 h0
     rw[show Nat.beq l.length 0=false from beq_false.2 (by omega),cF];refine⟨_,_,rfl,.inr ⟨S.next,l.length,rfl,pre_new ho l (by simp only[List.length_nil]at hl; omega),by show S.next<S.next+1; omega,hN⟩,(qca ho _ _).mono fun _ _ h=>(h:False).elim⟩
 . obtain⟨c,c1,c2,c3,c4⟩:=id h2
   rw[hm _ rfl rfl];unfold qc3;rw[hf,oB];dsimp only;rw[show Nat.beq 1 1=true from rfl,cT]
   have hsz:qg3 S r=some (1*n,S):=by
    unfold qg3;rw[c1];dsimp only;rw[blt_true.2 (show 1*n<big by unfold big; omega),cT,qav ho]
   rw[hsz,oB];dsimp only;by_cases hin:bs.length+l.length<=n
   . obtain⟨U,k1,k2,k3,k4⟩:=Pre.stN l h2 ho hin
     rw[ble_true.2 (show 0+(bs.length+l.length)*1<=1*n by omega),cT,show 0+bs.length*1=bs.length by omega,k1,oB];exact⟨_,U,rfl,.inr ⟨r,n,by rw[lAq],k2,by omega,h4⟩,k3.mono fun x _ e=>by rw[e]; exact h4⟩
   . have hb:Nat.ble (0+(bs.length+l.length)*1) (1*n)=false:=by
      cases hh:Nat.ble (0+(bs.length+l.length)*1) (1*n)with
      | false=>rfl
      | true=>rw[ble_true]at hh; omega
     rw[hb,cF];unfold qge;rw[c1];dsimp only;simp only[Nat.beq_refl,Bool.not_true,Bool.or_self,cF,Bool.true_and,show Nat.beq 1 1=true from rfl,show Nat.beq 0 0=true from rfl];have hset:setO S r .dead=S.put r .dead:=by unfold setO; rw[qav ho]
     have hgrow:Grew (fun x=>N<=x) S (nw (S.put r .dead) (.cells 5 1 (bs.length+l.length) false (addL c (l.map qbb) bs.length))):=⟨by show S.next<=S.next+1; omega,(nw_on (s:=S.put r .dead) ho _).trans ho.symm,fun x hx hw=>by
      rw[qdv,iN (by show x≠S.next; omega),qc0,iN (fun e=>hw (by rw[e]; exact h4))]⟩
     by_cases hn:n=bs.length
     . rw[show Nat.beq n bs.length=true from beq_true.2 hn,blt_true.2 (show 1*n<big by unfold big; omega),Bool.and_self,cT,qcq,hset]
       refine⟨_,_,rfl,.inr ⟨S.next,bs.length+l.length,by rw[lAq],⟨addL c (l.map qbb) bs.length,?_,by rw[lAq]; exact lR _,by omega,fun i b hb=>?_⟩,?_,hN⟩,hgrow⟩
       . rw[qdv]; exact iP rfl
       . rw[addL_get,lM]
         by_cases hi:bs.length<=i
         . rw[List.getElem?_append_right hi]at hb
           have hlt:=(List.getElem?_eq_some_iff.1 hb).1;rw[iP ⟨hi,by omega⟩,List.getElem?_map,hb]; rfl
         . rw[iN (by omega)]
           rw[List.getElem?_append_left (by omega)]at hb;exact c4 i b hb
       . show S.next<S.next+1; omega
     . rw[show Nat.beq n bs.length=false from beq_false.2 hn,Bool.false_and,cF,cT]
       have hld:=h2.ldN ho bs.length 0 (by omega);rw[List.drop_zero,List.take_of_length_le (lR _)]at hld;rw[hld,oB];dsimp only;have hl2:(bs.map qbb++l.map qbb)=(bs++l).map qbb:=(List.map_append ..).symm;rw[hl2,hset];refine⟨_,_,rfl,.inr ⟨S.next,(bs++l).length,by rw[lAq],pre_new (S:=S.put r .dead) ho (bs++l) (by rw[lAq]; omega),by show S.next<S.next+1; omega,hN⟩,?_⟩
       exact⟨by show S.next<=S.next+1; omega,(nw_on (s:=S.put r .dead) ho _).trans ho.symm,fun x hx hw=>by
        unfold qae
        rw[qdv,iN (by show x≠S.next; omega),qc0,iN (fun e=>hw (by rw[e]; exact h4))]⟩
def Bd (S:St) (b:Nat) (bs:Bs) (N:Nat):Prop:=S.on=false/\b<N/\N<=S.next/\∃t v,AgAt S b 45 2 t/\(t.get 0=some .nilptr\/t.get 0=some (.ptr b 0))/\t.get 1=some v/\BP S v bs N
theorem Bd.on (h:Bd S b bs N):S.on=false:=h.1
theorem Bd.grew {W:Nat->Prop} (h:Bd S b bs N) (g:Grew W S T) (hb:¬W b) (hw:∀x,N<=x->x<S.next->¬W x):Bd T b bs N:=by
 obtain⟨h1,h2,h3,t,v,h4,h5,h6,h7⟩:=h;exact⟨g.on.trans h1,h2,Nat.le_trans h3 g.next,t,v,h4.grew (by omega) hb g,h5,h6,h7.grew g hw⟩
theorem bd_new (ho:S.on=false):Bd (nwP 45 2 (Tr.ofListFrom .nil [.nilptr,.nilslice] 0) S).2 S.next [] (S.next+1):=by
 obtain⟨a1,a2,a3⟩:=qc7 ho 45 2 (Tr.ofListFrom .nil [.nilptr,.nilslice] 0);exact⟨a2.on.trans ho,by omega,by omega,_,_,a1,.inl rfl,rfl,.inl ⟨rfl,rfl⟩⟩
variable {K:FuncId->Option KF}
theorem qma (h40:K 52=some (qb4 45)) (m:Nat) (h:Bd S b bs N):∃U,(ev E0 K (m+1)).f 52 [.ptr b 0] S=some (.ret (.tuple []),U)/\Bd U b bs N/\Grew (fun x=>x=b) S U:=by
 obtain⟨ho,hb,hN,t,v,h1,h2,h3,h4⟩:=h;obtain⟨c,hc1,hc2⟩:=id h1
 have hhead:∀u,t.get 0=some u->headB 45 b S=some (u,S):=fun u hu=>by
  unfold headB;rw[hc1];dsimp only;rw[show(Nat.beq 45 45&&Nat.beq 2 2&&Nat.blt 0 1&&!false)=true from rfl,cT,hc2,oB,hu,oB,qav ho]
 rcases h2 with h2|h2
 . obtain⟨w,k1,k2,k3,k4⟩:=h1.st1 ho big2 (by decide) (i:=0) (by decide) (.ptr b 0) rfl rfl rfl
   have hst:stK S b 0 1 (Ev.one (.ptr b 0))=some w:=by
    have hk:vu (stK S b 0 1 (Ev.one (.ptr b 0)))=some (.tuple [],w):=k1;cases hq:stK S b 0 1 (Ev.one (.ptr b 0))with
    | none=>rw[hq]at hk; cases hk
    | some z=>rw[hq]at hk; cases hk; rfl
   refine⟨w,?_,⟨k3.on.trans ho,hb,by omega,_,v,k2,.inr (by rw[Tr.get_set,iP rfl]),by rw[Tr.get_set,iN (by omega)]; exact h3,h4.grew k3 fun x hx _ e=>by omega⟩,k3⟩;rw[qc9 h40];unfold qb4;dsimp only;rw[Nat.beq_refl,cT,hhead _ h2,oB];dsimp only;rw[hst,oB]
 . refine⟨S,?_,⟨ho,hb,hN,t,v,h1,.inr h2,h3,h4⟩,Grew.refl _ _⟩
   rw[qc9 h40];unfold qb4;dsimp only;rw[Nat.beq_refl,cT,hhead _ h2,oB];dsimp only;rw[Nat.beq_refl,Nat.beq_refl,Bool.and_self,cT]
theorem faP1 (b:Nat):faP 1 false 1 (.ptr b 0)=some (.ptr b 1):=rfl
theorem built_more (h:Bd S b bs N) {y:V} {l:Bs} {S0:St} (h0:S0.on=false) (hg:Grew (fun x=>N<=x) S S0) (hB:Bd S0 b bs N) (hy:lenV y=some l.length) (hf:qbc 1 l.length y S0=some (l.map qbb,S0)) (hl:bs.length+l.length<100000) :
 ∃v,ld1 (.ptr b 1) S=some (v,S)/\∃w S1 S2,apP 5 1 1 v y S0=some (w,S1)/\stP 1 (.ptr b 1) w S1=some (.tuple [],S2)/\Bd S2 b (bs++l) N/\Grew (fun x=>x=b\/N<=x) S0 S2:=by
 obtain⟨ho,hb,hN,t,v,h1,h2,h3,h4⟩:=h;obtain⟨ho',hb',hN',t',v',h1',h2',h3',h4'⟩:=hB;refine⟨v,h1.ld1 ho big2 (by decide) h3,?_⟩;have htt:AgAt S0 b 45 2 t:=h1.grew (by omega) (by omega) hg
 have:t'=t:=by
  obtain⟨c,c1,c2⟩:=htt;obtain⟨c',d1,d2⟩:=h1';rw[c1]at d1;cases d1;rw[c2]at d2;cases d2;rfl
 subst this;rw[h3]at h3';cases h3';obtain⟨w,S1,a1,a2,a3⟩:=h4'.app ho' hN' hy hf hl;have n1:=a3.next
 have g1:AgAt S1 b 45 2 t':=h1'.grew (by omega) (by omega) a3;have hv:=a2.oneV;obtain⟨S2,c1,c2,c3,c4⟩:=g1.st1 (a3.on.trans ho') big2 (by decide) (i:=1) (by decide) w hv.size hv.cells hv.tup;exact⟨w,S1,S2,a1,c1,⟨c3.on.trans (a3.on.trans ho'),hb,by omega,_,w,c2,by rw[Tr.get_set,iN (by omega)]; exact h2',by rw[Tr.get_set,iP rfl],a2.grew c3 fun x hx _ e=>by omega⟩,(a3.mono fun x _ e=>.inr e).trans (c3.mono fun x _ e=>.inl e)⟩
theorem first_sv (l:Bs) (S:St):qbc 1 l.length (sv l) S=some (l.map qbb,S):=by
 unfold qbc;show(bif Nat.ble l.length l.length&&Nat.beq 1 1 then some (qfh l.length (qbh l),S)else none)=_;rw[ble_true.2 (lR _),Nat.beq_refl,Bool.and_self,cT,qkp]
theorem str_run (h40:K 52=some (qb4 45)) (h17:K 17=none) (m:Nat) (h:Bd S b bs N) (l:Bs) (hl:bs.length+l.length<100000):∃U v,(ev E0 K (m+2)).f 17 [.ptr b 0,sv l] S=some (.ret v,U)/\Bd U b (bs++l) N/\Grew (fun x=>x=b\/N<=x) S U:=by
 obtain⟨S1,a1,a2,a3⟩:=qma h40 m h;obtain⟨v,b1,w,S2,S3,b2,b3,b4,b5⟩:=built_more a2 a2.on (Grew.refl _ _) a2 (y:=sv l) (l:=l) rfl (first_sv l S1) hl;refine⟨S3,.tuple [.int .i64 (l.length:Int),.niliface],qa6 (c:=C17) (d:=B17) (by kernel_rfl) (by kernel_rfl) (qa3 C17 _ (by kernel_rfl)) h17 (?_:F17 (ev E0 K (m+1)) qa1 (.ptr b 0) (sv l) S=_),b4,(a3.mono fun x _ e=>.inl e).trans b5⟩;rw[F17_eq,a1,callP_ret,nilP,oB,faP1,oB,b1,oB];dsimp only;rw[b2,oB,oB,faP1,oB];dsimp only;rw[b3,oB];dsimp only;rw[qa5,oB]
theorem byte_run (h40:K 52=some (qb4 45)) (h42:K 37=none) (m:Nat) (h:Bd S b bs N) (c:UInt8) (hl:bs.length<90000):∃U,(ev E0 K (m+2)).f 37 [.ptr b 0,.int .u8 (c.toNat:Int)] S=some (.ret .niliface,U)/\Bd U b (bs++[c]) N/\Grew (fun x=>x=b\/N<=x) S U:=by
 obtain⟨S1,a1,a2,a3⟩:=qma h40 m h;obtain⟨W,d1,d2,d3,d4⟩:=bsP_byte a2.on 5 c;have hBW:Bd W b bs N:=a2.grew d3 (fun h=>h) (fun _ _ _ h=>h);have hNW:=a2.2.2.1
 obtain⟨v,b1,w,S2,S3,b2,b3,b4,b5⟩:=built_more a2 (d3.on.trans a2.on) (d3.mono fun _ _ h=>(h:False).elim) hBW (y:=.slice S1.next 0 1 1) (l:=[c]) rfl (by
  have:=d2.ldN (d3.on.trans a2.on) 1 0 (by simp);rw[Nat.zero_mul,List.drop_zero]at this
  exact this) (by show bs.length+1<_; omega)
 refine⟨S3,qa6 (c:=C37) (d:=B37) (by kernel_rfl) (by kernel_rfl) (qa3 C37 _ (by kernel_rfl)) h42 (?_:F37 (ev E0 K (m+1)) qa1 (.ptr b 0) (.int .u8 (c.toNat:Int)) S=_),b4,(a3.mono fun x _ e=>.inl e).trans ((d3.mono fun _ _ h=>(h:False).elim).trans b5)⟩;rw[F37_eq,a1,callP_ret,nilP,oB,faP1,oB,b1,oB];dsimp only;rw[d1,oB];dsimp only;rw[b2,oB,oB,faP1,oB];dsimp only;rw[b3,oB]
theorem qjv (h20:K 20=some (qdm 5)) (m:Nat) (h:Bd S b bs N) (h0:bs≠[]):∃U,(ev E0 K (m+1)).f 20 [.ptr b 0] S=some (.ret (sv bs),U)/\Grew (fun x=>N<=x) S U:=by
 obtain⟨ho,hb,hN,t,v,h1,h2,h3,h4⟩:=h;rcases h4 with⟨rfl,_⟩|⟨r,n,rfl,k2,k3,k4⟩
 . exact absurd rfl h0
 . obtain⟨c,q1,_⟩:=id k2
   have hld:=k2.ldN ho bs.length 0 (by omega);rw[List.drop_zero,List.take_of_length_le (lR _)]at hld;have hcell:ld S b 1=some (.oslice r 0 bs.length 1,S):=h1.ld1 ho big2 (by decide) h3
   have hown:ownB 5 r S=some ((),S):=by
    unfold ownB;rw[q1];dsimp only;rw[show(Nat.beq 5 5&&Nat.beq 1 1&&!false)=true from rfl,cT,oB,qav ho]
   refine⟨S.put r .dead,?_,(qd8 r _).mono fun x _ e=>by rw[e]; exact k4⟩;rw[qc9 h20];unfold qdm;dsimp only;rw[Nat.beq_refl,cT,hcell,oB];dsimp only;rw[show(Nat.beq 1 1&&Nat.blt 0 bs.length)=true from by rw[Nat.beq_refl,blt_true.2 (List.length_pos_iff.2 h0)]; rfl,cT];unfold strAt;rw[hown,oB,hld,oB];dsimp only;rw[u8sOf_row,oB];unfold setO;rw[qav ho]
end
theorem all256 {p:Nat->Bool} (h:(List.range 256).all p=true) {n:Nat} (hn:n<256):p n=true:=List.all_eq_true.1 h n (List.mem_range.2 hn)
def isInt (k:IntKind) (m:Nat):Option V->Bool
 | some (.int k' (.ofNat n))=>ikEq k k'&&Nat.beq n m
 | _=>false
theorem qj9 {k:IntKind} {m:Nat} {x:Option V} (h:isInt k m x=true):x=some (.int k (m:Int)):=by
 unfold isInt at h;split at h
 . rename_i k' n
   rw[bA]at h;have h1:k=k':=by cases k<;>cases k'<;>first|rfl|(cases h.1)
   have h2:n=m:=beq_true.1 h.2;subst h1; subst h2; rfl
 . cases h
theorem shr8 (c:UInt8):qa4 E0 .shr 5 false true (.int .u8 (c.toNat:Int)) (.int .u64 4)=some (.int .u8 ((c.toNat/16:Nat):Int)):=
 qj9 (all256 (p:=fun n=>isInt .u8 (n/16) (qdg .shr .u8 (.ofNat n) .u64 4)) (by decide +kernel) c.toNat_lt)
theorem and8 (c:UInt8):qa4 E0 .and 5 false true (.int .u8 (c.toNat:Int)) (.int .u8 15)=some (.int .u8 ((c.toNat%16:Nat):Int)):=
 qj9 (all256 (p:=fun n=>isInt .u8 (n%16) (qdg .and .u8 (.ofNat n) .u8 15)) (by decide +kernel) c.toNat_lt)
section
variable {S T U:St}
theorem hexL_len:hexL.length=16:=rfl
theorem hex_ix {n:Nat} (h:n<16):ixS (sv hexL) (.int .u8 (n:Int))=some (.int .u8 ((hexC n).toNat:Int)):=by
 rw[qci hexL .u8 n h];unfold hexC;rw[List.getD_eq_getElem?_getD,List.getElem?_eq_getElem h];rfl
def dig2 (c:UInt8):Bs:=[hexC (c.toNat/16),hexC (c.toNat%16)]
theorem L19_spec {m N b Nb:Nat} (s:Bs) (hs:s.length<=1000) (nk:Ac->St->Rs) (ek:Nat->Ac->St->Rs) :
 ∀(q:Bs) (i n:Nat) (S:St) (bs:Bs),Bd S b bs Nb->s.drop i=q->q.length<n->bs.length=2*i->
 ∃U,L19_11 (ev E0 K2 (m+2)) N nk ek n (sv s) (.ptr b 0) (.int .i64 (s.length:Int)) (.int .i64 (i:Int)) S=ek 0 (fr 26 [(3,.ptr b 0)]) U/\Bd U b (bs++q.flatMap dig2) Nb/\Grew (fun x=>x=b\/Nb<=x) S U
 | _,_,0,_,_,_,_,hn,_=>by omega
 | [],i,n+1,S,bs,hB,hi,_,_=>by
  refine⟨S,?_,by simpa using hB,Grew.refl _ _⟩;rw[L19_11_eq,qds,dF (Nat.not_lt.2 (qau hi)),oB,ifK_bool,cF]
 | c::q,i,n+1,S,bs,hB,hi,hn,hbs=>by
  obtain⟨hlt,hc,hr',hm⟩:=qba hi;have hc16:c.toNat/16<16:=by have:=c.toNat_lt; omega
  have hm16:c.toNat%16<16:=by omega
  obtain⟨U1,a1,a2,a3⟩:=byte_run (K:=K2) rfl rfl m hB (hexC (c.toNat/16)) (by omega);obtain⟨U2,b1,b2,b3⟩:=byte_run (K:=K2) rfl rfl m a2 (hexC (c.toNat%16)) (by rw[lAq,List.length_singleton]; omega);obtain⟨U,d1,d2,d3⟩:=L19_spec (m:=m) (N:=N) s hs nk ek q (i+1) n U2 (bs++[hexC (c.toNat/16)]++[hexC (c.toNat%16)]) b2 hr' (by simpa using hn) (by simp; omega);refine⟨U,?_,by rw[List.flatMap_cons]; simpa [dig2]using d2,(a3.trans b3).trans d3⟩;have hx:ixS (sv s) (.int .i64 (i:Int))=some (.int .u8 (c.toNat:Int)):=by rw[qci s .i64 i hlt,hc]
  rw[L19_11_eq,qds,dT hlt,oB,ifK_bool,cT,hx,oB,shr8,oB];show((ixS (sv hexL) (.int .u8 ((c.toNat/16:Nat):Int))).bind _)=_;rw[hex_ix hc16,oB,a1,callP_ret,oB,and8,oB];show((ixS (sv hexL) (.int .u8 ((c.toNat%16:Nat):Int))).bind _)=_;rw[hex_ix hm16,oB,b1,callP_ret,qc1 (by omega),oB,d1]
theorem f19_run (ho:S.on=false) (m:Nat) (s:Bs) (hs:s.length<=1000):∃U,F19 (ev E0 K2 (m+2)) qa1 (sv s) S=some (.ret (sv (hexD s)),U)/\Grew (fun _=>False) S U:=by
 unfold hexD;by_cases h0:s=[]
 . subst h0
   exact⟨S,by rw[F19_eq]; rfl,Grew.refl _ _⟩
 . have hB:=bd_new ho
   have g1:Grew (fun _=>False) S (nwP 45 2 (Tr.ofListFrom .nil [.nilptr,.nilslice] 0) S).2:=(qc7 ho 45 2 _).2.1;have n1:(nwP 45 2 (Tr.ofListFrom .nil [.nilptr,.nilslice] 0) S).2.next=S.next+1:=(qc7 ho 45 2 _).2.2
   obtain⟨U,a1,a2,a3⟩:=L19_spec (m:=m) (N:=qa1) s hs (R19_5 (ev E0 K2 (m+2)) qa1 (qat E0 (ev E0 K2 (m+2)) Tryz.f19) qad) (exB 0 (R19_5 (ev E0 K2 (m+2)) qa1 (qat E0 (ev E0 K2 (m+2)) Tryz.f19) qad) qad) s 0 qa1 _ [] hB rfl (by unfold qa1; omega) rfl;rw[List.nil_append]at a2
   have hne:s.flatMap dig2≠[]:=by
    cases s with
    | nil=>exact absurd rfl h0
    | cons c s=>rw[List.flatMap_cons]; simp[dig2]
   obtain⟨W,b1,b2⟩:=qjv (K:=K2) rfl (m+1) a2 hne;refine⟨W,?_,Grew.fresh g1 (lR _) ((a3.mono fun x _ hx=>by have:=n1; omega).trans (b2.mono fun x _ hx=>by have:=n1; omega))⟩;have e0:qa4 E0 .eql 9 false true (sv s) (sv [])=some (.bool false):=by rw[eqStr]; simp[h0]
   rw[F19_eq,e0,oB,ifK_bool,cF,oB,qet,qa5,oB];dsimp only;rw[show V.int .i64 0=.int .i64 ((0:Nat):Int)from rfl,a1,exB_same,R19_5_eq,b1,callP_ret,iN h0];rfl
end
structure HexIn where
 s:Bs
 hs:s.length<=1000
def kfHex:KF:=qcw (fun p:HexIn=>[sv p.s]) (fun p=>En.ret (sv (hexD p.s)))
theorem kfHex_run (s:Bs) (hs:s.length<=1000) (S:St):kfHex.run [sv s] S=some (.ret (sv (hexD s)),S):=
 qe3 (enc:=fun p:HexIn=>[sv p.s]) (out:=fun p=>En.ret (sv (hexD p.s))) (fun p q h=>by
  simp only[List.cons.injEq,and_true]at h
  rw[qnv h]) ⟨s,hs⟩ S
end Go.Proofs.YtpgegoeghaplkaaGreatDoor.W
namespace Go.Proofs.YtpgegoeghaplkaaGreatDoor.W
open Go.Proofs.YtpgegoeghaplkaaGreatDoor.Ev
theorem works_runs:saysTrue ((ev E0 K2 400).f 10 [] s0)=true:=by decide +kernel
end Go.Proofs.YtpgegoeghaplkaaGreatDoor.W
namespace Go.Proofs.YtpgegoeghaplkaaGreatDoor.W
open Go.RowKit Go.Proofs
theorem cubeMul (x y:Nat) (hx:x<18446744073709551616) (hy:y<18446744073709551616) (w:World) :
 Calls Tryz.prog 122 #[.int .u64 x,.int .u64 y] w fun e w'=>e=.returned (.tuple #[.int .u64 ((x*y/18446744073709551616:Nat):Int),.int .u64 ((x*y%18446744073709551616:Nat):Int)])/\w'=w:=Any.bits_Mul64 Tryz.lays264 x y hx hy w
theorem cubeAdd (x y c:Nat) (hc:c<=1) (w:World) :
 (callFunc 123 #[.int .u64 x,.int .u64 y,.int .u64 c]).run Tryz.prog w =
  .ok (.value (.tuple #[.int .u64 (((x+y+c)%18446744073709551616:Nat):Int),.int .u64 (((x+y+c)/18446744073709551616:Nat):Int)])) w:=by
 rw[run_callFunc_extern Tryz.func123 (by kernel_rfl) (by kernel_rfl) (by kernel_rfl) (e:=add64Entry) (by kernel_rfl),run_add64 x y c (by omega) (by omega) (by omega) (by omega)];simp only[Result.andThen]
 congr 5<;>omega
theorem cubeAddO (x y:Nat) (w:World) :
 (callFunc 123 #[.int .u64 x,.int .u64 y,.int .u64 0]).run Tryz.prog w =
  .ok (.value (.tuple #[.int .u64 (((x+y)%18446744073709551616:Nat):Int),.int .u64 (((x+y)/18446744073709551616:Nat):Int)])) w:=
 cubeAdd x y 0 (by decide) w
attribute [-go_sem] shift_shl_u64 shift_shl_any
def cubeV (H2 C M Q L1:Nat):Bool:=
 decide (0<IntKind.u64.wrap ((H2:Int)+C))||(decide (Q<M)||(decide (M=Q)&&decide (0<L1)))
set_option maxHeartbeats 1000000 in
set_option maxRecDepth 100000 in
theorem cube81A (x p L H L1 H1 L2 H2 M C Q:Nat)
 (c1:∀w,Calls Tryz.prog 122 #[.int .u64 x,.int .u64 x] w fun e w'=>e=.returned (.tuple #[.int .u64 H,.int .u64 L])/\w'=w)
 (c2:∀w,Calls Tryz.prog 122 #[.int .u64 L,.int .u64 x] w fun e w'=>e=.returned (.tuple #[.int .u64 H1,.int .u64 L1])/\w'=w)
 (c3:∀w,Calls Tryz.prog 122 #[.int .u64 H,.int .u64 x] w fun e w'=>e=.returned (.tuple #[.int .u64 H2,.int .u64 L2])/\w'=w)
 (c4:∀w,(callFunc 123 #[.int .u64 H1,.int .u64 L2,.int .u64 0]).run Tryz.prog w=.ok (.value (.tuple #[.int .u64 M,.int .u64 C])) w)
 (c5:Op.shift .shl .u64 (p:Int) .u64 32=pure (.int .u64 (Q:Int)))
 (w:World) :
 Calls Tryz.prog 97 #[.int .u64 x,.int .u64 p] w fun e w'=>e=.returned (.bool (cubeV H2 C M Q L1))/\w'=w:=by
 go_enter Tryz.func97,Tryz.ntmps97
 go_wp2_with fail
 refine(c1 _).mono ?_;rintro e w' ⟨rfl,rfl⟩
 go_wp2_with fail
 refine(c2 _).mono ?_;rintro e w' ⟨rfl,rfl⟩
 go_wp2_with fail
 refine(c3 _).mono ?_;rintro e w' ⟨rfl,rfl⟩;clear c1 c2 c3
 go_wp2
 all_goals go_ret
 all_goals (refine⟨?_,rfl⟩)
 all_goals (refine congrArg Ending.returned ?_)
 all_goals (show Value.bool _=Value.bool _)
 all_goals (refine congrArg Value.bool ?_)
 all_goals (clear c4 c5; unfold cubeV; generalize IntKind.u64.wrap ((H2:Int)+C)=z at *; rw[Bool.eq_iff_iff]; simp; omega)
theorem cubeShl (p:Nat):Op.shift .shl .u64 (p:Int) .u64 32=pure (.int .u64 ((p*4294967296%18446744073709551616:Nat):Int)):=by
 have e:IntKind.u64.wrap ((p:Int)*2^(32:Int).toNat)=((p*4294967296%18446744073709551616:Nat):Int):=by
  have e2:(2:Int)^(32:Int).toNat=4294967296:=by decide
  rw[e2,IntKind.wrap_u64];omega
 have h:=shift_shl .u64 .u64 (p:Int) 32 (by decide) (by decide);rw[e]at h;exact h
def qiy (x p:Nat):Bool:=
 let L:=x*x%18446744073709551616
 let H:=x*x/18446744073709551616
 cubeV (H*x/18446744073709551616) ((L*x/18446744073709551616+H*x%18446744073709551616)/18446744073709551616)
  ((L*x/18446744073709551616+H*x%18446744073709551616)%18446744073709551616) (p*4294967296%18446744073709551616) (L*x%18446744073709551616)
theorem cube81 (x p:Nat) (hx:x<18446744073709551616) (w:World) :
 Calls Tryz.prog 97 #[.int .u64 x,.int .u64 p] w fun e w'=>e=.returned (.bool (qiy x p))/\w'=w:=
 cube81A x p _ _ _ _ _ _ _ _ _ (cubeMul x x hx hx) (cubeMul _ x (Nat.mod_lt _ (by decide)) hx) (cubeMul _ x (Nat.div_lt_of_lt_mul (Nat.mul_lt_mul'' hx hx)) hx) (cubeAddO _ _) (cubeShl p) w
open Go.Proofs.YtpgegoeghaplkaaGreatDoor.Ev
def kfCube:KF:=⟨fun args s=>match args with
 | [.int .u64 (.ofNat x),.int .u64 (.ofNat p)]=>bif Nat.blt x 18446744073709551616 then some (.ret (.bool (qiy x p)),s)else none
 | _=>none⟩
theorem kfCube_locp (args:List V):LocP fun s=>kfCube.run args s:=by
 unfold kfCube;dsimp only;split
 . exact Loc.cond (LocP.ret _) Loc.none
 . exact Loc.none
theorem cube_well {E:Env}:KnWell Tryz.prog E 97 kfCube:=by
 refine⟨kfCube_locp,fun w0 ρ s w args cargs e s' hR hv hg=>?_⟩;unfold kfCube at hg;dsimp only at hg;split at hg
 . rename_i x p
   cases hc:Nat.blt x 18446744073709551616 with
   | false=>rw[hc]at hg; cases hg
   | true=>
   rw[hc]at hg;rw[blt_true]at hc;simp only[cT,oS,pM]at hg;obtain⟨rfl,rfl⟩:=hg;obtain⟨l'⟩:=cargs;cases hv with
   | cons hx ht=>
   cases ht with
   | cons hp hn=>
   cases hn;cases hx;cases hp;refine(cube81 x p hc w).mono fun ce w' h=>?_;obtain⟨rfl,rfl⟩:=h;exact⟨ρ,_,rfl,Rho.le_refl ρ,.bool _,hR⟩
 . cases hg
def qnt (H p L:Nat):Bool:=decide (p<H)||(decide (H=p)&&decide (0<L))
set_option maxHeartbeats 1000000 in
set_option maxRecDepth 100000 in
theorem square82A (x p L H:Nat)
 (c1:∀w,Calls Tryz.prog 122 #[.int .u64 x,.int .u64 x] w fun e w'=>e=.returned (.tuple #[.int .u64 H,.int .u64 L])/\w'=w)
 (w:World) :
 Calls Tryz.prog 98 #[.int .u64 x,.int .u64 p] w fun e w'=>e=.returned (.bool (qnt H p L))/\w'=w:=by
 go_enter Tryz.func98,Tryz.ntmps98
 go_wp2_with fail
 refine(c1 _).mono ?_;rintro e w' ⟨rfl,rfl⟩;clear c1
 go_wp2
 all_goals go_ret
 all_goals (refine⟨?_,rfl⟩)
 all_goals (refine congrArg Ending.returned ?_)
 all_goals (show Value.bool _=Value.bool _)
 all_goals (refine congrArg Value.bool ?_)
 all_goals (unfold qnt; rw[Bool.eq_iff_iff]; simp; omega)
theorem square82 (x p:Nat) (hx:x<18446744073709551616) (w:World) :
 Calls Tryz.prog 98 #[.int .u64 x,.int .u64 p] w fun e w'=>e=.returned (.bool (qnt (x*x/18446744073709551616) p (x*x%18446744073709551616)))/\w'=w:=
 square82A x p _ _ (cubeMul x x hx hx) w
def kfSquare:KF:=⟨fun args s=>match args with
 | [.int .u64 (.ofNat x),.int .u64 (.ofNat p)]=>bif Nat.blt x 18446744073709551616 then some (.ret (.bool (qnt (x*x/18446744073709551616) p (x*x%18446744073709551616))),s)else none
 | _=>none⟩
theorem kfSquare_locp (args:List V):LocP fun s=>kfSquare.run args s:=by
 unfold kfSquare;dsimp only;split
 . exact Loc.cond (LocP.ret _) Loc.none
 . exact Loc.none
theorem square_well {E:Env}:KnWell Tryz.prog E 98 kfSquare:=by
 refine⟨kfSquare_locp,fun w0 ρ s w args cargs e s' hR hv hg=>?_⟩;unfold kfSquare at hg;dsimp only at hg;split at hg
 . rename_i x p
   cases hc:Nat.blt x 18446744073709551616 with
   | false=>rw[hc]at hg; cases hg
   | true=>
   rw[hc]at hg;rw[blt_true]at hc;simp only[cT,oS,pM]at hg;obtain⟨rfl,rfl⟩:=hg;obtain⟨l'⟩:=cargs;cases hv with
   | cons hx ht=>
   cases ht with
   | cons hp hn=>
   cases hn;cases hx;cases hp;refine(square82 x p hc w).mono fun ce w' h=>?_;obtain⟨rfl,rfl⟩:=h;exact⟨ρ,_,rfl,Rho.le_refl ρ,.bool _,hR⟩
 . cases hg
end Go.Proofs.YtpgegoeghaplkaaGreatDoor.W
end
