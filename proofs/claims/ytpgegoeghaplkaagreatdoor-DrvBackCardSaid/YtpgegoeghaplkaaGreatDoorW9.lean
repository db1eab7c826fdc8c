/-
  WHAT THE FUNCTIONS COME TO: each is read by the evaluator,printed,and told as a function of data,part 9 of 13 (no condition).
-/
import Derived.Test.YtpgegoeghaplkaaGreatDoorW8
namespace Go.Proofs.YtpgegoeghaplkaaGreatDoor.W
open Go.Proofs.YtpgegoeghaplkaaGreatDoor.Ev Go.RowKit
section
variable {S T U:St}
def fstB (c:UInt8):Bool:=c==95||(inB 97 122 c||inB 65 90 c)
def varL:Bool->Bs->Bool
 | _,[]=>true
 | b,c::s=>(fstB c||(!b&&inB 48 57 c))&&varL false s
def qdt (s:Bs):Bool:=varL true s&&(((decide (s≠[])&&decide (s.length<=56))&&!(s==[111,117,116]))&&!(s==[110,97,109,101]))
theorem u8eql (a:Nat) (ha:a<256) (c:UInt8):qa4 E0 .eql 5 false true (.int .u8 (c.toNat:Int)) (.int .u8 (a:Int))=some (.bool (c==UInt8.ofNat a)):=by
 rw[binV_ii,intsV_eql]
 congr 2
 by_cases h:c=UInt8.ofNat a
 . rw[h,UInt8.toNat_ofNat',show a%2^8=a by omega]; simp
 . have:¬((c.toNat:Int)=(a:Int)):=fun e=>h (UInt8.toNat_inj.1 (by rw[UInt8.toNat_ofNat']; omega))
   rw[dF this];exact(beq_false_of_ne h).symm
theorem u8lss (a:Nat) (c:UInt8):qa4 E0 .lss 5 false true (.int .u8 (c.toNat:Int)) (.int .u8 (a:Int))=some (.bool (decide (c.toNat<a))):=by
 rw[binV_ii,intsV_lss]
 congr 2
 simp
theorem u8gtr (a:Nat) (c:UInt8):qa4 E0 .gtr 5 false true (.int .u8 (c.toNat:Int)) (.int .u8 (a:Int))=some (.bool (decide (a<c.toNat))):=by
 rw[binV_ii,intsV_gtr]
 congr 2
 simp
theorem f51_run (m:Nat) (c:UInt8) (S:St):(ev E0 KD (m+1)).f 79 [.int .u8 (c.toNat:Int)] S=some (.ret (.bool (fstB c)),S):=rq51 (by
 show F79 (ev E0 KD m) qa1 (.int .u8 (c.toNat:Int)) S=_;have e1:qa4 E0 .eql 5 false true (.int .u8 (c.toNat:Int)) (.int .u8 95)=some (.bool (c==95)):=u8eql 95 (by decide) c;have e2:qa4 E0 .geq 5 false true (.int .u8 (c.toNat:Int)) (.int .u8 97)=some (.bool (decide (97<=c.toNat))):=u8geq 97 c;have e3:qa4 E0 .leq 5 false true (.int .u8 (c.toNat:Int)) (.int .u8 122)=some (.bool (decide (c.toNat<=122))):=u8leq 122 c;have e4:qa4 E0 .geq 5 false true (.int .u8 (c.toNat:Int)) (.int .u8 65)=some (.bool (decide (65<=c.toNat))):=u8geq 65 c;have e5:qa4 E0 .leq 5 false true (.int .u8 (c.toNat:Int)) (.int .u8 90)=some (.bool (decide (c.toNat<=90))):=u8leq 90 c;rw[F79_eq,e1];unfold fstB inB;cases c==95 with
 | true=>rfl
 | false=>
  simp only[oB,qaj,qam,nF,cT,e2,pickV_bool];cases decide (97<=c.toNat)with
  | false=>
   simp only[oB,qaj,qam,nF,cT,cF,e4,pickV_bool];cases decide (65<=c.toNat)with
   | false=>rfl
   | true=>simp only[oB,qaj,qam,nF,cT,cF,e5,pickV_bool]; rfl
  | true=>
   simp only[oB,qaj,qam,nF,cT,cF,e3,pickV_bool];cases decide (c.toNat<=122)with
   | true=>rfl
   | false=>
    simp only[oB,qaj,qam,nF,cT,cF,e4,pickV_bool];cases decide (65<=c.toNat)with
    | false=>rfl
    | true=>simp only[oB,qaj,qam,nF,cT,cF,e5,pickV_bool]; rfl)
theorem body51:E0.ext.get 79=none/\qat E0 79=true:=⟨by kernel_rfl,by kernel_rfl⟩
theorem L25_spec {m N:Nat} (s:Bs) (hs:s.length<9223372036854775807) (nk:Ac->St->Rs) (ek:Nat->Ac->St->Rs) (S:St) :
 ∀(q:Bs) (i n:Nat),s.drop i=q->q.length<n->
 L50_22 (ev E0 KD (m+1)) N nk ek n (sv s) (.fn (.func 79) [] []) (.int .i64 (s.length:Int)) (.int .i64 (i:Int)) S=if varL (decide (i=0)) q then ek 0 (fr 48 [(0,sv s)]) S else some (.ret (.bool false),S)
 | _,_,0,_,hn=>by omega
 | [],i,n+1,hi,_=>by
  rw[L50_22_eq,qff,dF (Nat.not_lt.2 (qbe hi)),oB,ifK_bool,cF];rfl
 | c::q,i,n+1,hi,hn=>by
  obtain⟨hlt,hc,hr',hm⟩:=qbv hi;have ih:=L25_spec (m:=m) (N:=N) s hs nk ek S q (i+1) n hr' (by simpa using hn);rw[dF (by omega:¬i+1=0)]at ih;have e1:qa4 E0 .lss 5 false true (.int .u8 (c.toNat:Int)) (.int .u8 48)=some (.bool (decide (c.toNat<48))):=u8lss 48 c;have e2:qa4 E0 .gtr 5 false true (.int .u8 (c.toNat:Int)) (.int .u8 57)=some (.bool (decide (57<c.toNat))):=u8gtr 57 c;have hx:ixS (sv s) (.int .i64 (i:Int))=some (.int .u8 (c.toNat:Int)):=by rw[qe8 s .i64 i hlt,hc]
  rw[L50_22_eq,qff,dT hlt,oB,ifK_bool,cT,hx,oB,qb6 body51.1 body51.2];show(qaa ((ev E0 KD (m+1)).f 79 [.int .u8 (c.toNat:Int)] S) _)=_;rw[f51_run,callP_ret,unV_not,oB,varL];cases fstB c with
  | true=>
   simp only[oB,qaj,qam,nF,Bool.not_true,cT,cF,pickV_bool,qdy,ifK_bool];rw[qds (by omega),oB,ih,Bool.true_or,Bool.true_and]
  | false=>
   simp only[oB,qaj,qam,nF,Bool.not_true,cT,cF,pickV_bool,qdy,ifK_bool,eqI0,Bool.false_or];by_cases h0:i=0
   . rw[dT h0]
     simp only[oB,qaj,qam,nF,Bool.not_true,cT,cF,pickV_bool,qdy,ifK_bool,Bool.false_and];rfl
   . rw[dF h0]
     simp only[oB,qaj,qam,nF,Bool.not_true,cT,cF,pickV_bool,qdy,ifK_bool,hx,e1,Bool.true_and];unfold inB;by_cases h1:c.toNat<48
     . rw[dT h1,dF (by omega:¬48<=c.toNat)]
       simp only[oB,qaj,qam,nF,Bool.not_true,cT,cF,pickV_bool,qdy,ifK_bool,Bool.false_and];rfl
     . rw[dF h1,dT (by omega:48<=c.toNat)]
       simp only[oB,qaj,qam,nF,Bool.not_true,cT,cF,pickV_bool,qdy,ifK_bool,Bool.true_and,hx,e2];by_cases h2:57<c.toNat
       . rw[dT h2,dF (by omega:¬c.toNat<=57)]
         rfl
       . rw[dF h2,dT (by omega:c.toNat<=57),cF,qds (by omega),oB,ih,Bool.true_and]
theorem f25_run (m:Nat) (s:Bs) (hs:s.length<9223372036854775807) (S:St):(ev E0 KD (m+2)).f 50 [sv s] S=some (.ret (.bool (qdt s)),S):=rq25 (by
 show F50 (ev E0 KD (m+1)) qa1 (sv s) S=_;have h0:=L25_spec (m:=m) (N:=qa1) s hs (R50_2 (ev E0 KD (m+1)) qa1 (qb5 E0 (ev E0 KD (m+1)) Tryz.f50) qak) (exB 0 (R50_2 (ev E0 KD (m+1)) qa1 (qb5 E0 (ev E0 KD (m+1)) Tryz.f50) qak) qak) S s 0 qa1 rfl (by unfold qa1; omega);rw[F50_eq,qab,oB];dsimp only;rw[show V.int .i64 0=.int .i64 ((0:Nat):Int)from rfl,h0];unfold qdt;rw[show decide (0=0)=true from rfl];cases varL true s with
 | false=>rfl
 | true=>
  rw[iP rfl,exB_same,R50_2_eq,qlj,oB,Bool.true_and];cases s with
  | nil=>rfl
  | cons c s=>
   have hne:(!((c::s)==([]:Bs)))=true:=rfl;rw[hne,dT (by simp:c::s≠[])]
   have hle:qa4 E0 .leq 3 false true (.int .i64 ((c::s).length:Int)) (.int .i64 56)=some (.bool (decide ((c::s).length<=56))):=by
    rw[binV_ii,intsV_leq]
    congr 2
    simp;omega
   simp only[oB,qaj,qam,cT,pickV_bool,qab,hle,qlj,Bool.true_and];cases decide ((c::s).length<=56)with
   | false=>rfl
   | true=>
    simp only[oB,qaj,qam,cT,pickV_bool,qab,hle,qlj,Bool.true_and];cases(!((c::s)==[111,117,116]))with
    | false=>rfl
    | true=>simp only[oB,qaj,qam,cT,pickV_bool,qlj,Bool.true_and])
theorem ltB_eq (a b:Bs):ltB a b=Op.bytesLess a b:=by
 unfold ltB;cases h:Op.bytesLess a b with
 | true=>exact dT (bless_iff.1 h)
 | false=>exact dF fun e=>by rw[bless_iff.2 e]at h; cases h
theorem predN {i:Nat} (h:1<=i) (hi:i<9223372036854775807):qa4 E0 .sub 3 false true (.int .i64 (i:Int)) (.int .i64 1)=some (.int .i64 ((i-1:Nat):Int)):=by
 rw[binV_ii,intsV_sub,qc0 (by omega) (by omega)]
 congr 2
 omega
theorem L24_spec {self:EV} {N:Nat} (ho:S.on=false) (nk:Ac->St->Rs) (ek:Nat->Ac->St->Rs) {v:V} {l:List Bs} (h:TL S v l) (hl:l.length<1000000) :
 ∀(q:List Bs) (i n:Nat),l.drop (i-1)=q->1<=i->q.length<n->
 L46_4 self N nk ek n v (.int .i64 (i:Int)) S=if qd9 q then ek 0 (fr 20 []) S else some (.ret (.bool false),S)
 | _,_,0,_,_,hn=>by omega
 | [],i,n+1,hi,h1,_=>by
  have:=qbe hi;rw[L46_4_eq,h.len,oB];dsimp only;rw[qff,dF (by omega),oB,ifK_bool,cF];rfl
 | [a],i,n+1,hi,h1,_=>by
  have:(l.drop (i-1)).length=1:=by rw[hi]; rfl
  rw[List.length_drop]at this;rw[L46_4_eq,h.len,oB];dsimp only;rw[qff,dF (by omega),oB,ifK_bool,cF];rfl
 | a::b::q,i,n+1,hi,h1,hn=>by
  obtain⟨hlt,hc,hr',hm⟩:=qbv hi;rw[show i-1+1=i by omega]at hr';obtain⟨hlt2,hc2,hr2,hm2⟩:=qbv hr';have ih:=L24_spec (self:=self) (N:=N) ho nk ek h hl (b::q) (i+1) n (by rw[Nat.add_sub_cancel]; exact hr') (by omega) (by simpa using hn);obtain⟨p1,r1,o1,x1,x2⟩:=h.ldOn ho (show l[i-1]?=some a by rw[List.getElem?_eq_getElem hlt,hc]) [];obtain⟨p2,r2,o2,y1,y2⟩:=h.ldOn ho (show l[i]?=some b by rw[List.getElem?_eq_getElem hlt2,hc2]) [];rw[L46_4_eq,h.len,oB];dsimp only;rw[qff,dT hlt2,oB,ifK_bool,cT,predN h1 (by omega),oB,x1,oB,qb2,x2,oB];dsimp only;rw[y1,oB,qag,qb2,y2,oB];dsimp only;rw[geqStr,oB,endP_rd (rds_of ?_),qag,qf9 ho,ifK_bool,qd9,ltB_eq]
  . cases Op.bytesLess a b with
    | false=>rfl
    | true=>rw[Bool.not_true,cF,qds (by omega),oB,ih,Bool.true_and]
  . intro L hL e he
    simp only[List.mem_cons,List.not_mem_nil,or_false]at hL;rcases hL with rfl|rfl|rfl|rfl|rfl|rfl|rfl|rfl|rfl|rfl
    all_goals first
     | exact absurd he List.not_mem_nil
     | (rw[List.mem_singleton.1 he])
theorem f24_run (ho:S.on=false) (m:Nat) {v:V} {l:List Bs} (h:TL S v l) (hl:l.length<1000000):(ev E0 KD (m+1)).f 46 [v] S=some (.ret (.bool (qd9 l)),S):=rq24 (by
 show F46 (ev E0 KD m) qa1 v S=_;rw[F46_eq,show V.int .i64 1=.int .i64 ((1:Nat):Int)from rfl,L24_spec ho _ _ h hl l 1 qa1 rfl (lR _) (by unfold qa1; omega)];cases qd9 l with
 | false=>rfl
 | true=>rw[iP rfl,exB_same,R46_1_eq])
theorem L63_spec {self:EV} {N:Nat} (ho:S.on=false) (nk:Ac->St->Rs) (ek:Nat->Ac->St->Rs) {v:V} {l:List Bs} (h:TL S v l) (hl:l.length<1000000) (x:Bs) :
 ∀(q:List Bs) (i n:Nat),l.drop i=q->q.length<n->
 ∃j:Nat,L107_6 self N nk ek n v (sv x) (.int .i64 (l.length:Int)) (.int .i64 (i:Int)) S=if q.contains x then some (.ret (.int .i64 (j:Int)),S)else ek 0 (fr 19 []) S
 | _,_,0,_,hn=>by omega
 | [],i,n+1,hi,_=>⟨0,by
  rw[L107_6_eq,qff,dF (Nat.not_lt.2 (qbe hi)),oB,ifK_bool,cF]
  rfl⟩
 | a::q,i,n+1,hi,hn=>by
  obtain⟨hlt,hc,hr',hm⟩:=qbv hi;obtain⟨j,ih⟩:=L63_spec (self:=self) (N:=N) ho nk ek h hl x q (i+1) n hr' (by simpa using hn);obtain⟨p,x1,x2⟩:=h.ld ho (show l[i]?=some a by rw[List.getElem?_eq_getElem hlt,hc]);rw[L107_6_eq,qff,dT hlt,oB,ifK_bool,cT,x1,oB,x2,oB];dsimp only;rw[eqStr,oB,ifK_bool,List.contains_cons];cases x==a with
  | true=>exact⟨i,rfl⟩
  | false=>exact⟨j,by rw[cF,qds (by omega),oB,ih,Bool.false_or]⟩
theorem f43_run (ho:S.on=false) (m:Nat) {v:V} {l:List Bs} (h:TL S v l) (hl:l.length<1000000) (x:Bs):(ev E0 KD (m+2)).f 89 [v,sv x] S=some (.ret (.bool (l.contains x)),S):=rq43 (by
 show F89 (ev E0 KD (m+1)) qa1 v (sv x) S=_;obtain⟨j,hj⟩:=L63_spec (self:=ev E0 KD m) (N:=qa1) ho (R107_1 (ev E0 KD m) qa1 (qb5 E0 (ev E0 KD m) Tryz.f107) qak) (exB 0 (R107_1 (ev E0 KD m) qa1 (qb5 E0 (ev E0 KD m) Tryz.f107) qak) qak) h hl x l 0 qa1 rfl (by unfold qa1; omega)
 have h63:(ev E0 KD (m+1)).f 107 [v,sv x] S=some (.ret (.int .i64 (if l.contains x then(j:Int)else -1)),S):=rq63 (by
  show F107 (ev E0 KD m) qa1 v (sv x) S=_;rw[F107_eq,h.len,oB];dsimp only;rw[show V.int .i64 0=.int .i64 ((0:Nat):Int)from rfl,hj];cases l.contains x with
  | true=>rfl
  | false=>rw[iN (by simp),exB_same,R107_1_eq]; rfl)
 rw[F89_eq,h63,callP_ret,binV_ii,intsV_geq];cases l.contains x with
 | true=>rw[iP rfl,oB,dT (by omega)]
 | false=>rfl)
theorem cut_some:∀(s:Bs) (j:Nat),s.findIdx? (fun x=>x==10)=some j->j<s.length/\qj8 s=(s.take j,some (s.drop (j+1)))
 | [],j,h=>by cases h
 | c::s,j,h=>by
  rw[List.findIdx?_cons]at h;rw[qj8];by_cases hc:c=10
  . rw[beq_iff_eq.2 hc]at h
    cases h;rw[iP hc];exact⟨by simp,rfl⟩
  . rw[beq_false_of_ne hc]at h
    simp only[Bool.false_eq_true,if_false]at h;obtain⟨k,hk,rfl⟩:=Option.map_eq_some_iff.1 h;obtain⟨h1,h2⟩:=cut_some s k hk;rw[iN hc,h2];exact⟨by simp; omega,rfl⟩
theorem cut_none:∀(s:Bs),s.findIdx? (fun x=>x==10)=none->qj8 s=(s,none)
 | [],h=>rfl
 | c::s,h=>by
  rw[List.findIdx?_cons]at h;rw[qj8];by_cases hc:c=10
  . rw[beq_iff_eq.2 hc]at h
    cases h
  . rw[beq_false_of_ne hc]at h
    simp only[Bool.false_eq_true,if_false]at h;rw[iN hc,cut_none s (by simpa using h)]
theorem f12_run (ho:S.on=false) (m:Nat) (s:Bs) (hs:s.length<1000000):(ev E0 KD (m+4)).f 31 [sv s,sv [10]] S=some (.ret (.tuple [sv (qj8 s).1,sv ((qj8 s).2.getD []),.bool (qj8 s).2.isSome]),S):=rq12 (by
 have h27:(ev E0 KD (m+3)).f 63 [sv s,sv [10]] S=some (.ret (.tuple [sv (qj8 s).1,sv ((qj8 s).2.getD []),.bool (qj8 s).2.isSome]),S):=rq27 (by
  show F63 (ev E0 KD (m+2)) qa1 (sv s) (sv [10]) S=_;rw[F63_eq,f53_run 10 rfl rfl m s S,callP_ret];unfold ixB;cases hf:s.findIdx? (fun x=>x==10)with
  | none=>
   rw[cut_none s hf];rfl
  | some j=>
   obtain⟨h1,h2⟩:=cut_some s j hf;rw[h2];show((qa4 E0 .geq 3 false true (.int .i64 (j:Int)) (.int .i64 0)).bind _)=_;rw[binV_ii,intsV_geq,show decide ((j:Int)≥0)=true by simp,oB,ifK_bool,cT,qdf und9 s (qd2 .i64 (show j<=s.length by omega)) (by omega),oB];dsimp only;rw[qab,oB];dsimp only;rw[binV_ii,intsV_add,show(([10]:Bs).length:Int)=1 from rfl,qfc (by omega),oB,qdf und9 s (qf1 .i64 (show j+1<=s.length by omega)) (lR _),oB];dsimp only;rw[List.drop_zero,Nat.sub_zero,show List.take (s.length-(j+1)) (s.drop (j+1))=s.drop (j+1)from List.take_of_length_le (by rw[List.length_drop]; exact lR _),qbw (by rfl)];simp only[qf6,qf9 ho]
   rfl)
 show F31 (ev E0 KD (m+3)) qa1 (sv s) (sv [10]) S=_
 rw[F31_eq,h27,callP_ret,ex0,oB,ex1,oB,ex2,oB])
theorem spl_eq:∀s:Bs,qbz s=qgx s
 | []=>rfl
 | c::s=>by
  rw[qbz,qgx,spl_eq s];rfl
theorem f13_run (ho:S.on=false) (m:Nat) (s:Bs) (hs:s.length<=20000) :
 ∃U,(ev E0 KD (m+5)).f 32 [sv s,sv [32]] S=some (.ret (.slice S.next 0 (qgx s).length (qgx s).length),U)/\TL U (.slice S.next 0 (qgx s).length (qgx s).length) (qgx s)/\Grew (fun _=>False) S U:=by
 obtain⟨U,a1,a2,a3,a4⟩:=split11 (K:=KD) rfl rfl rfl rfl rfl rfl m s hs S ho;rw[spl_eq]at a1 a2;exact⟨U,a1,TL.sli a2 a4,a3⟩
end
theorem big6:6<big:=by unfold big; decide
theorem fault_neq (c n:Int):qa4 E0 .neq 20 false true (qe7 c n) .niliface=some (.bool true):=by kernel_rfl
theorem fault_is (c n:Int):qmg E0 53 true (qe7 c n)=some (.tuple [.agg 2 (faultT c n),.bool true]):=by kernel_rfl
section
variable {S T U:St} {b N0:Nat} {d:DD} {n:Int} {last:Bs} {t:Tr V}
theorem must_yes (m:Nat) (p:V) (c:Int) (S:St):(ev E0 KD (m+1)).f 33 [p,.bool true,.int .i64 c] S=some (.ret (.tuple []),S):=rq14 (by
 show F33 (ev E0 KD m) qa1 p (.bool true) (.int .i64 c) S=_;rw[F33_eq]
 rfl)
theorem must_no (m:Nat) (c:Int) {p:V} {L:List LE} (hp:faP 4 false 1 (.ptr b 0)=some p) (h:ld1 p (S.lg L)=some (.int .i64 n,T)):(ev E0 KD (m+1)).f 33 [.ptr b 0,.bool false,.int .i64 c] (S.lg L)=some (.pan (qe7 c n),T):=rq14 (by
 show F33 (ev E0 KD m) qa1 (.ptr b 0) (.bool false) (.int .i64 c) (S.lg L)=_;rw[F33_eq,unV_not,oB,nF,ifK_bool,cT,nilP,oB,hp,oB,h,oB];dsimp only;rw[build_53,oB]
 rfl)
theorem qlw (ho:S.on=false) (m:Nat) (c:Int) (q:Bool) (h:AgAt S b 58 6 t) (ht:t.get 4=some (.int .i64 n)):(ev E0 KD (m+1)).f 33 [.ptr b 0,.bool q,.int .i64 c] S=some (if q=true then .ret (.tuple [])else .pan (qe7 c n),S):=by
 cases q with
 | true=>exact must_yes m _ c S
 | false=>
  exact rq14 (by
   show F33 (ev E0 KD m) qa1 (.ptr b 0) (.bool false) (.int .i64 c) S=_;rw[F33_eq,unV_not,oB,nF,ifK_bool,cT,nilP,oB,show faP 4 false 1 (.ptr b 0)=some (.ptr b 4)from rfl,oB,h.ld1 ho big6 (by decide) ht,oB];dsimp only;rw[build_53,oB]
   rfl)
theorem qdv {q:Bool} {v:V} {k:V->St->Rs}:qaa (some (if q=true then En.ret (.tuple [])else .pan v,S)) k=if q=true then k (.tuple []) S else some (.pan v,S):=by cases q<;>rfl
noncomputable def qg4 (p:Bs×Bs):Tr V:=Tr.ofListFrom .nil [sv p.1,sv p.2] 0
def VLo (S:St) (v:V) (l:List (Bs×Bs)) (N:Nat):Prop:=(l=[]/\v=.nilslice)\/∃r,v=.oslice r 0 l.length 2/\RowAt S r 41 2 (l.map qg4)/\r<S.next/\N<=r/\0<l.length
theorem VLo.grew {W:Nat->Prop} {v:V} {l:List (Bs×Bs)} {N:Nat} (h:VLo S v l N) (g:Grew W S U) (hw:∀x,qcj v=some x->¬W x):VLo U v l N:=by
 rcases h with h|⟨r,h0,h1,h2,h3⟩
 . exact .inl h
 . exact .inr ⟨r,h0,h1.grew h2 (hw r (by rw[h0]; rfl)) g,Nat.lt_of_lt_of_le h2 g.next,h3⟩
theorem TLo.grewW {W:Nat->Prop} {v:V} {l:List Bs} {N:Nat} (h:TLo S v l N) (g:Grew W S U) (hw:∀x,qcj v=some x->¬W x):TLo U v l N:=by
 rcases h with h|⟨r,h0,h1,h2,h3⟩
 . exact .inl h
 . exact .inr ⟨r,h0,h1.grew h2 (hw r (by rw[h0]; rfl)) g,Nat.lt_of_lt_of_le h2 g.next,h3⟩
structure RdT (t:Tr V) (nm:Bs) (vI vE:V) (scr:Bs) (n:Int) (last:Bs):Prop where
 nm:t.get 0=some (sv nm)
 ins:t.get 1=some vI
 env:t.get 2=some vE
 scr:t.get 3=some (sv scr)
 n:t.get 4=some (.int .i64 n)
 last:t.get 5=some (sv last)
structure Rd (S:St) (b N0:Nat) (d:DD) (n:Int) (last:Bs) (vI vE:V):Prop where
 on:S.on=false
 lt:b<N0
 hi:N0<=S.next
 ex:∃t,AgAt S b 58 6 t/\RdT t d.nm vI vE d.scr n last
 ins:TLo S vI d.ins N0
 env:VLo S vE d.env N0
variable {vI vE:V}
def Own (b:Nat) (vI vE:V) (x:Nat):Prop:=x=b\/qcj vI=some x\/qcj vE=some x
theorem Rd.own_lt (h:Rd S b N0 d n last vI vE) {x:Nat} (hx:Own b vI vE x):x<S.next:=by
 have h1:=h.lt; have h2:=h.hi;rcases hx with rfl|hx|hx
 . omega
 . rcases h.ins with⟨_,rfl⟩|⟨r,rfl,_,h3,_⟩
   . cases hx
   . cases hx; exact h3
 . rcases h.env with⟨_,rfl⟩|⟨r,rfl,_,h3,_⟩
   . cases hx
   . cases hx; exact h3
theorem Rd.grew {W:Nat->Prop} (h:Rd S b N0 d n last vI vE) (g:Grew W S U) (hw:∀x,Own b vI vE x->¬W x):Rd U b N0 d n last vI vE:=by
 obtain⟨t,h1,h2⟩:=h.ex;have:=h.lt; have:=h.hi;exact⟨g.on.trans h.on,h.lt,Nat.le_trans h.hi g.next,⟨t,h1.grew (by omega) (hw b (.inl rfl)) g,h2⟩,h.ins.grewW g fun x hx=>hw x (.inr (.inl hx)),h.env.grew g fun x hx=>hw x (.inr (.inr hx))⟩
theorem Rd.grew0 (h:Rd S b N0 d n last vI vE) (g:Grew (fun _=>False) S U):Rd U b N0 d n last vI vE:=h.grew g fun _ _ h=>h
theorem Rd.must (h:Rd S b N0 d n last vI vE) (m:Nat) (c:Int) (q:Bool):(ev E0 KD (m+1)).f 33 [.ptr b 0,.bool q,.int .i64 c] S=some (if q=true then .ret (.tuple [])else .pan (qe7 c n),S):=by
 obtain⟨t,h1,h2⟩:=h.ex;exact qlw h.on m c q h1 h2.n
theorem Rd.put (h:Rd S b N0 d n last vI vE) (i:Nat) (hi:i<6) (v:V) (hv:OneV v) {d':DD} {n':Int} {last':Bs} {vI' vE':V} (hI:TLo S vI' d'.ins N0) (hE:VLo S vE' d'.env N0) (ht:∀t,RdT t d.nm vI vE d.scr n last->RdT (t.set v i) d'.nm vI' vE' d'.scr n' last') :
 ∃U,stP 1 (.ptr b i) v S=some (.tuple [],U)/\Rd U b N0 d' n' last' vI' vE'/\Grew (fun x=>x=b) S U:=by
 obtain⟨t,h1,h2⟩:=h.ex;have h3:=h.lt; have h4:=h.hi;obtain⟨U,k1,k2,k3,k4⟩:=h1.st1 h.on big6 (by decide) (i:=i) hi v hv.size hv.cells hv.tup
 have hlt:∀x,qcj vI'=some x->¬x=b:=fun x hx e=>by
  rcases hI with⟨_,rfl⟩|⟨r,rfl,_,_,h6,_⟩
  . cases hx
  . cases hx; omega
 have hlt2:∀x,qcj vE'=some x->¬x=b:=fun x hx e=>by
  rcases hE with⟨_,rfl⟩|⟨r,rfl,_,_,h6,_⟩
  . cases hx
  . cases hx; omega
 exact⟨U,k1,⟨k3.on.trans h.on,h.lt,by omega,⟨_,k2,ht t h2⟩,hI.grewW k3 hlt,hE.grew k3 hlt2⟩,k3⟩
theorem qgq (t:Tr V) (v:V) (i j:Nat) (h:j≠i):(t.set v i).get j=t.get j:=by rw[Tr.get_set,iN h]
theorem setS (t:Tr V) (v:V) (i:Nat):(t.set v i).get i=some v:=by rw[Tr.get_set,iP rfl]
def aftB (lasts:List Bs) (last:Bs) (w:List Bs) (k:Nat):Bool:=lasts.contains last&&decide (w.length=k)
theorem f21_run (h:Rd S b N0 d n last vI vE) (m:Nat) {vw vl:V} {w lasts:List Bs} (hw:TL S vw w) (hl:TL S vl lasts) (lw:w.length<1000000) (ll:lasts.length<1000000) (k:Nat):(ev E0 KD (m+3)).f 61 [.ptr b 0,vw,.int .i64 (k:Int),vl] S=some (if aftB lasts last w k=true then .ret (.tuple [])else .pan (qe7 4 n),S):=rq21 (by
 show F61 (ev E0 KD (m+2)) qa1 (.ptr b 0) vw (.int .i64 (k:Int)) vl S=_;obtain⟨t,h1,h2⟩:=h.ex
 have hx:qa4 E0 .eql 3 false false (.int .i64 (w.length:Int)) (.int .i64 (k:Int))=some (.bool (decide (w.length=k))):=by
  rw[binV_ii,intsV_eql]
  congr 2
  simp;omega
 rw[F61_eq,nilP,oB,show faP 5 false 1 (.ptr b 0)=some (.ptr b 5)from rfl,oB,h1.ld1 h.on big6 (by decide) h2.last,oB];dsimp only;rw[f43_run h.on m hl ll last,callP_ret];unfold aftB;cases lasts.contains last with
 | false=>
  simp only[qam,oB,cF,pickV_bool,Bool.false_and];rw[h.must (m+1) 4 false];rfl
 | true=>
  simp only[qam,oB,cT,pickV_bool,Bool.true_and,hw.len,hx];rw[h.must (m+1) 4,qdv]
  cases decide (w.length=k)<;>rfl)
theorem lay_run (ho:S.on=false) (l:List Bs) (hl:l.length<1000):∃U,bsP 9 1 l.length (Ev.one (sv [])) (numb 0 (l.map sv)) S=some (.slice S.next 0 l.length l.length,U)/\TL U (.slice S.next 0 l.length l.length) l/\Grew (fun _=>False) S U:=by
 obtain⟨U,h1,h2,h3,h4⟩:=qdc ho 9 (Ev.one (sv [])) (l.map sv) (fun v hv=>by
  obtain⟨a,_,rfl⟩:=List.mem_map.1 hv
  exact qep a) (by rw[lM]; unfold big; omega)
 rw[lM]at h1;refine⟨U,h1 none,TL.sli (by rw[List.map_map]at h2; exact h2) (by omega),h3⟩
end
def qdq (t:Nat):Bs:=match t with
 | 0=>[]
 | 1=>wDrv
 | 2=>wIn
 | 3=>wEnv
 | _=>wRun
theorem last0 {t:Nat} (h:t<=4):[([]:Bs)].contains (qdq t)=decide (t=0):=by
 match t,h with
 | 0,_|1,_|2,_|3,_|4,_=>rfl
theorem last12 {t:Nat} (h:t<=4):[wDrv,wIn].contains (qdq t)=decide (t=1\/t=2):=by
 match t,h with
 | 0,_|1,_|2,_|3,_|4,_=>rfl
theorem last13 {t:Nat} (h:t<=4):[wDrv,wIn,wEnv].contains (qdq t)=decide (t=1\/t=2\/t=3):=by
 match t,h with
 | 0,_|1,_|2,_|3,_|4,_=>rfl
theorem sayDrv1 (chk:Bs->Bool) (t:Nat) (d:DD) (a:Bs):ql8 chk t d [a]=if t=0/\chk a=true then some (1,{d with nm:=a})else none:=rfl
theorem sayIn1 (isPath:Bs->Bool) (t:Nat) (d:DD) (a:Bs):sayIn isPath t d [a]=if(t=1\/t=2)/\isPath a=true/\qd9 (d.ins++[a])=true/\d.ins.length<8 then some (2,{d with ins:=d.ins++[a]})else none:=rfl
theorem sayEnv2 (variable_:Bs->Bool) (t:Nat) (d:DD) (a b:Bs):ql9 variable_ t d [a,b]=if(t=1\/t=2\/t=3)/\variable_ a=true/\(∀y,d.env.getLast?=some y->ltB y.1 a=true)then
 (valD b).bind fun v=>if v.length<=200/\d.env.length<16 then some (3,{d with env:=d.env++[(a,v)]})else none
 else none:=rfl
section
variable {S T U:St} {b N0:Nat} {d:DD} {n:Int} {vI vE:V} {t:Nat}
def Meth (S:St) (b N0:Nat) (n:Int) (vw:V) (vI vE:V) (t:Nat) (m f:Nat) (r:Option (Nat×DD)):Prop:=match r with
 | some p=>∃U vI' vE',(ev E0 KD m).f f [.ptr b 0,vw] S=some (.ret (.tuple []),U)/\Rd U b N0 p.2 n (qdq t) vI' vE'/\Grew (Own b vI vE) S U
 | none=>∃U c,(ev E0 KD m).f f [.ptr b 0,vw] S=some (.pan (qe7 c n),U)/\Grew (Own b vI vE) S U
theorem chk_eql (s:Bs):qa4 E0 .eql 27 false true (.int .i64 (chkN s)) (.int .i64 0)=some (.bool (qcr s)):=by
 have hu:qa4 E0 .eql 27 false true (.int .i64 (chkN s)) (.int .i64 0)=some (.bool (decide (chkN s=0))):=by
  rw[binV_ii,intsV_eql]
 rw[hu];rfl
theorem aft_len1 {w0:Bs} {ws:List Bs} (h:(w0::ws).length=2):∃a,ws=[a]:=by
 match ws,h with
 | [a],_=>exact⟨a,rfl⟩
 | [],h=>cases h
 | _::_::_,h=>simp at h
theorem w_ix {vw:V} {w:List Bs} (h:TL S vw w) (ho:S.on=false) {i:Nat} {a:Bs} (ha:w[i]?=some a):∃p,ixP 1 vw (.int .i64 (i:Int))=some p/\ld1 p S=some (sv a,S):=h.ld ho ha
theorem f8_run (h:Rd S b N0 d n (qdq t) vI vE) (ht:t<=4) (m:Nat) {vw:V} {w0:Bs} {ws:List Bs} (hw:TL S vw (w0::ws)) (lw:(w0::ws).length<100000) (hs:∀a∈ws,a.length<1000000):Meth S b N0 n vw vI vE t (m+4) 27 (ql8 qcr t d ws):=by
 obtain⟨S1,a1,a2,a3⟩:=lay_run h.on [([]:Bs)] (by decide);have hw1:=hw.grew0 a3;have h1:=h.grew0 a3;have e21:=f21_run h1 m hw1 a2 (by omega) (by decide) 2;have hF:=F27_eq (ev E0 KD (m+3)) qa1 (.ptr b 0) vw S;rw[show bsP 9 1 1 (Ev.one (sv [])) [(0,(sv []))] S=some (_,S1)from a1,oB]at hF;dsimp only at hF;rw[show V.int .i64 2=.int .i64 ((2:Nat):Int)from rfl,e21,qdv]at hF;have hq:aftB [([]:Bs)] (qdq t) (w0::ws) 2=(decide (t=0)&&decide ((w0::ws).length=2)):=by unfold aftB; rw[last0 ht]
 rw[hq]at hF;by_cases hc:t=0/\(w0::ws).length=2
 . obtain⟨rfl,h2⟩:=hc
   obtain⟨a,rfl⟩:=aft_len1 h2;rw[dT rfl,dT h2,Bool.and_self,iP rfl]at hF;obtain⟨p,p1,p2⟩:=w_ix hw1 h1.on (i:=1) (a:=a) rfl;rw[show V.int .i64 1=.int .i64 ((1:Nat):Int)from rfl,p1,oB,p2,oB]at hF;dsimp only at hF;rw[check_k (m+2) a (hs a (by simp)) S1,callP_ret,chk_eql,oB,h1.must (m+2) 4 (qcr a),qdv]at hF;rw[sayDrv1];by_cases hk:qcr a=true
   . rw[iP ⟨rfl,hk⟩]
     rw[iP hk,oB,p2,oB]at hF;dsimp only at hF;rw[nilP,oB,show faP 0 true 4 (.ptr b 0)=some (.ptr b 0)from rfl,oB,show faP 0 false 1 (.ptr b 0)=some (.ptr b 0)from rfl,oB]at hF;obtain⟨U,k1,k2,k3⟩:=h1.put 0 (by decide) (sv a) (qep a) (d':={d with nm:=a}) (n':=n) (last':=qdq 0) (vI':=vI) (vE':=vE) h1.ins h1.env (fun t ht=>⟨setS _ _ _,(qgq _ _ _ _ (by decide)).trans ht.ins,(qgq _ _ _ _ (by decide)).trans ht.env,(qgq _ _ _ _ (by decide)).trans ht.scr,(qgq _ _ _ _ (by decide)).trans ht.n,(qgq _ _ _ _ (by decide)).trans ht.last⟩);rw[k1,oB]at hF;exact⟨U,vI,vE,rq8 hF,k2,(a3.mono fun _ _ h=>(h:False).elim).trans (k3.mono fun x _ e=>.inl e)⟩
   . rw[iN (fun e=>hk e.2)]
     rw[iN hk]at hF;exact⟨S1,4,rq8 hF,a3.mono fun _ _ h=>(h:False).elim⟩
 . have hno:ql8 qcr t d ws=none:=by
    unfold ql8;split
    . rw[iN fun e=>hc ⟨e.1,rfl⟩]
    . rfl
   rw[hno]
   have hb:(decide (t=0)&&decide ((w0::ws).length=2))=false:=by
    by_cases h0:t=0
    . rw[dF (fun e=>hc ⟨h0,e⟩),Bool.and_false]
    . rw[dF h0]; rfl
   rw[hb,iN (by simp)]at hF;exact⟨S1,4,rq8 hF,a3.mono fun _ _ h=>(h:False).elim⟩
theorem f11_run (h:Rd S b N0 d n (qdq t) vI vE) (ht:t<=4) (m:Nat) {vw:V} {w0:Bs} {ws:List Bs} (hw:TL S vw (w0::ws)) (lw:(w0::ws).length<100000):Meth S b N0 n vw vI vE t (m+4) 30 (sayRun t d ws):=by
 obtain⟨S1,a1,a2,a3⟩:=lay_run h.on [wDrv,wIn,wEnv] (by decide);have hw1:=hw.grew0 a3;have h1:=h.grew0 a3;have e21:=f21_run h1 m hw1 a2 (by omega) (by decide) 1;have hF:=F30_eq (ev E0 KD (m+3)) qa1 (.ptr b 0) vw S;rw[show bsP 9 1 3 (Ev.one (sv [])) [(0,(sv [100,114,118])),(1,(sv [105,110])),(2,(sv [101,110,118]))] S=some (_,S1)from a1,oB]at hF;dsimp only at hF;rw[show V.int .i64 1=.int .i64 ((1:Nat):Int)from rfl,e21,qdv]at hF;have hq:aftB [wDrv,wIn,wEnv] (qdq t) (w0::ws) 1=(decide (t=1\/t=2\/t=3)&&decide ((w0::ws).length=1)):=by unfold aftB; rw[last13 ht]
 rw[hq]at hF;unfold sayRun;cases ws with
 | nil=>
  by_cases hc:t=1\/t=2\/t=3
  . rw[iP hc]
    rw[dT hc,show decide ([w0].length=1)=true from rfl,Bool.and_self,iP rfl]at hF;exact⟨S1,vI,vE,rq11 hF,h1,a3.mono fun _ _ h=>(h:False).elim⟩
  . rw[iN hc]
    rw[dF hc,Bool.false_and,iN (by simp)]at hF;exact⟨S1,4,rq11 hF,a3.mono fun _ _ h=>(h:False).elim⟩
 | cons a ws=>
  rw[dF (by simp:¬(w0::a::ws).length=1),Bool.and_false,iN (by simp)]at hF;exact⟨S1,4,rq11 hF,a3.mono fun _ _ h=>(h:False).elim⟩
end
section
variable {S T U:St} {b N0:Nat} {d:DD} {n:Int} {vI vE:V} {t:Nat}
theorem put_cell (ho:S.on=false) (lt:b<N0) (hN:N0<=S.next) {t:Tr V} (h1:AgAt S b 58 6 t) (i:Nat) (hi:i<6) (v:V) (hv:OneV v) {d':DD} {n':Int} {last':Bs} {vI' vE':V} (hI:TLo S vI' d'.ins N0) (hE:VLo S vE' d'.env N0) (ht:RdT (t.set v i) d'.nm vI' vE' d'.scr n' last') :
 ∃U,stP 1 (.ptr b i) v S=some (.tuple [],U)/\Rd U b N0 d' n' last' vI' vE'/\Grew (fun x=>x=b) S U:=by
 obtain⟨U,k1,k2,k3,k4⟩:=h1.st1 ho big6 (by decide) (i:=i) hi v hv.size hv.cells hv.tup
 have hlt:∀x,qcj vI'=some x->¬x=b:=fun x hx e=>by
  rcases hI with⟨_,rfl⟩|⟨r,rfl,_,_,h6,_⟩
  . cases hx
  . cases hx; omega
 have hlt2:∀x,qcj vE'=some x->¬x=b:=fun x hx e=>by
  rcases hE with⟨_,rfl⟩|⟨r,rfl,_,_,h6,_⟩
  . cases hx
  . cases hx; omega
 exact⟨U,k1,⟨k3.on.trans ho,lt,by omega,⟨_,k2,ht⟩,hI.grewW k3 hlt,hE.grew k3 hlt2⟩,k3⟩
theorem pairs9 {b r o N:Nat} (hb:b≠N) (l':List LE):qaq [[],[],[],[],[⟨b,1,1+1,false⟩],[],[],[⟨r,o,o+1,false⟩],[⟨N,0,big,true⟩],l',[]] [(4,[7,8])]=true:=by
 have h1:qbu [⟨b,1,1+1,false⟩] [⟨r,o,o+1,false⟩]=false:=qc3 (by simp);have h2:qbu [⟨b,1,1+1,false⟩] [⟨N,0,big,true⟩]=false:=qc3 (by simp[hb]);show(bif (bif qbu [⟨b,1,1+1,false⟩] [⟨r,o,o+1,false⟩]then true else(bif qbu [⟨b,1,1+1,false⟩] [⟨N,0,big,true⟩]then true else false))then false else true)=true;rw[h1,h2];rfl
theorem TLo.oneV {v:V} {l:List Bs} {N:Nat} (h:TLo S v l N):OneV v:=by
 rcases h with⟨_,rfl⟩|⟨_,rfl,_⟩<;>exact⟨rfl,rfl,rfl,rfl⟩
theorem leqN (a c:Nat):qa4 E0 .leq 3 false true (.int .i64 (a:Int)) (.int .i64 (c:Int))=some (.bool (decide (a<=c))):=by
 rw[binV_ii,intsV_leq]
 congr 2
 simp
theorem f9_run (h:Rd S b N0 d n (qdq t) vI vE) (ht:t<=4) (m:Nat) {vw:V} {w0:Bs} {ws:List Bs} (hw:TL S vw (w0::ws)) (hwo:∀r,qcj vw=some r->¬Own b vI vE r) (hne:∀x,qcj vI=some x->qcj vE≠some x) (lw:(w0::ws).length<100000) (li:d.ins.length<1000) (hs:∀a∈ws,a.length<1000000):Meth S b N0 n vw vI vE t (m+4) 28 (sayIn qai t d ws):=by
 obtain⟨S1,a1,a2,a3⟩:=lay_run h.on [wDrv,wIn] (by decide);have hw1:=hw.grew0 a3;have h1:=h.grew0 a3;have e21:=f21_run h1 m hw1 a2 (by omega) (by decide) 2;have hF:=F28_eq (ev E0 KD (m+3)) qa1 (.ptr b 0) vw S;rw[show bsP 9 1 2 (Ev.one (sv [])) [(0,(sv [100,114,118])),(1,(sv [105,110]))] S=some (_,S1)from a1,oB]at hF;dsimp only at hF;rw[show V.int .i64 2=.int .i64 ((2:Nat):Int)from rfl,e21,qdv]at hF;have hq:aftB [wDrv,wIn] (qdq t) (w0::ws) 2=(decide (t=1\/t=2)&&decide ((w0::ws).length=2)):=by unfold aftB; rw[last12 ht]
 rw[hq]at hF;by_cases hc:(t=1\/t=2)/\(w0::ws).length=2
 . obtain⟨htt,h2⟩:=hc
   obtain⟨a,rfl⟩:=aft_len1 h2;rw[dT htt,dT h2,Bool.and_self,iP rfl]at hF;obtain⟨t6,c1,c2⟩:=h1.ex;have hb1:=h1.lt; have hb2:=h1.hi;obtain⟨p,r,o,p1,p2⟩:=hw1.ldOn h1.on (i:=1) (a:=a) rfl [];obtain⟨U1,e1,e2,e3,e4⟩:=qdc h1.on 9 (Ev.one (sv [])) [sv a] (fun v hv=>by rw[List.mem_singleton.1 hv]; exact qep a) (by show 1<big; unfold big; decide);obtain⟨y,W,v',U2,g1,g2,g3,g4⟩:=h1.ins.push2 h1.on h1.hi (by omega) a;have e1':bsP 9 1 1 (Ev.one (sv [])) [(0,sv a)] S1=some (.slice S1.next 0 1 1,U1):=e1 none;rw[e1']at g1;simp only[oS,pM]at g1;obtain⟨rfl,rfl⟩:=g1;have e1s:bsP 9 1 1 (Ev.one (sv [])) [(0,sv a)] (S1.lg [])=some (.slice S1.next 0 1 1,U1.lg [⟨S1.next,0,big,true⟩]):=e1 (some []);obtain⟨l',g2'⟩:=lg_of (lg_apP 9 1 16 vI (.slice S1.next 0 1 1)) g2 [];rw[nilP,oB,show faP 0 true 4 (.ptr b 0)=some (.ptr b 0)from rfl,oB,show faP 1 false 1 (.ptr b 0)=some (.ptr b 1)from rfl,oB,qb2,qbj h1.on (c1.ld1 h1.on big6 (by decide) c2.ins) [],oB,show V.int .i64 1=.int .i64 ((1:Nat):Int)from rfl,p1,oB]at hF;dsimp only at hF;rw[qag,qb2,p2,oB]at hF;dsimp only at hF;rw[qag,qb2,e1s,oB]at hF;dsimp only at hF;rw[qag,qb2,show apP 9 1 16 vI (.slice S1.next 0 1 1) (U1.lg [])=some (v',U2.lg l')from g2',oB]at hF;dsimp only at hF;obtain⟨U,r1,r2,r3,r4⟩:=qf8 h1.on U2 [] [[],[],[],[],[⟨b,1,1+1,false⟩],[],[],[⟨r,o,o+1,false⟩],[⟨S1.next,0,big,true⟩],l',[]]
   rw[qag,qb2,show(S1.lg [⟨b,1,1+1,false⟩]).log=[⟨b,1,1+1,false⟩]from rfl,show(S1.lg [⟨r,o,o+1,false⟩]).log=[⟨r,o,o+1,false⟩]from rfl,show(U1.lg [⟨S1.next,0,big,true⟩]).log=[⟨S1.next,0,big,true⟩]from rfl,show(U2.lg l').log=l' from rfl,qbw (pairs9 (by omega) l'),r1]at hF;have gU:Grew (fun x=>qcj vI=some x) S1 U:=g4.trans ((Grew.of_eq r2 r3 (r4.trans (g4.on.trans h1.on).symm)).mono fun _ _ h=>(h:False).elim)
   have hbI:¬qcj vI=some b:=fun e=>by
    rcases h1.ins with⟨_,rfl⟩|⟨r,rfl,_,_,h6,_⟩
    . cases e
    . cases e; omega
   have cU:AgAt U b 58 6 t6:=c1.grew (by omega) hbI gU;have hwU:TL U vw [w0,a]:=hw1.grew (fun r e hr _ hx=>hwo r hr (.inr (.inl hx))) gU;have hI:TLo U v' (d.ins++[a]) N0:=TLo.grew g3 (Grew.of_eq r2 r3 (r4.trans (g4.on.trans h1.on).symm));have hE:VLo U vE d.env N0:=h1.env.grew gU fun x hx e=>hne x e hx;have nU:=gU.next
   obtain⟨q,q1,q2⟩:=w_ix hwU r4 (i:=1) (a:=a) rfl;rw[p1]at q1;cases q1;have gS:Grew (Own b vI vE) S U:=(a3.mono fun _ _ h=>(h:False).elim).trans (gU.mono fun x _ e=>.inr (.inl e));rw[oB,q2,oB]at hF;dsimp only at hF;rw[path_k (m+2) a (hs a (by simp)) U,callP_ret]at hF;rw[sayIn1];by_cases hk:qai a=true
   . rw[hk]at hF
     simp only[qam,oB,cT,pickV_bool]at hF;rw[f24_run r4 (m+2) hI.tl (by rw[lAq,List.length_singleton]; omega),callP_ret,qlw r4 (m+2) 4 (qd9 (d.ins++[a])) cU c2.n,qdv]at hF;by_cases hr:qd9 (d.ins++[a])=true
     . rw[iP hr,hI.tl.len,oB]at hF
       dsimp only at hF;rw[show V.int .i64 8=.int .i64 ((8:Nat):Int)from rfl,leqN,oB,qlw r4 (m+2) 3 (decide ((d.ins++[a]).length<=8)) cU c2.n,qdv]at hF;by_cases h8:d.ins.length<8
       . rw[iP (dT (show(d.ins++[a]).length<=8 by rw[lAq,List.length_singleton]; omega)),show faP 0 true 4 (.ptr b 0)=some (.ptr b 0)from rfl,oB,show faP 1 false 1 (.ptr b 0)=some (.ptr b 1)from rfl]at hF
         simp only[oB]at hF;obtain⟨X,k1,k2,k3⟩:=put_cell r4 h1.lt (Nat.le_trans h1.hi nU) cU 1 (by decide) v' hI.oneV (d':={d with ins:=d.ins++[a]}) (n':=n) (last':=qdq t) (vI':=v') (vE':=vE) hI hE ⟨(qgq _ _ _ _ (by decide)).trans c2.nm,setS _ _ _,(qgq _ _ _ _ (by decide)).trans c2.env,(qgq _ _ _ _ (by decide)).trans c2.scr,(qgq _ _ _ _ (by decide)).trans c2.n,(qgq _ _ _ _ (by decide)).trans c2.last⟩;rw[k1,oB]at hF;rw[iP ⟨htt,hk,hr,h8⟩];exact⟨X,v',vE,rq9 hF,k2,gS.trans (k3.mono fun x _ e=>.inl e)⟩
       . rw[iN (by rw[decide_eq_true_eq,lAq,List.length_singleton]; omega)]at hF
         rw[iN fun e=>h8 e.2.2.2];exact⟨U,3,rq9 hF,gS⟩
     . rw[iN hr]at hF
       rw[iN fun e=>hr e.2.2.1];exact⟨U,4,rq9 hF,gS⟩
   . rw[Bool.not_eq_true]at hk
     rw[hk]at hF;simp only[qam,oB,cF,pickV_bool,callP_ret]at hF;rw[qlw r4 (m+2) 4 false cU c2.n,qdv,iN (by simp)]at hF;rw[iN fun e=>by rw[hk]at e; cases e.2.1];exact⟨U,4,rq9 hF,gS⟩
 . have hno:sayIn qai t d ws=none:=by
    unfold sayIn;split
    . rw[iN fun e=>hc ⟨e.1,rfl⟩]
    . rfl
   rw[hno]
   have hb:(decide (t=1\/t=2)&&decide ((w0::ws).length=2))=false:=by
    by_cases h0:t=1\/t=2
    . rw[dF (fun e=>hc ⟨h0,e⟩),Bool.and_false]
    . rw[dF h0]; rfl
   rw[hb,iN (by simp)]at hF;exact⟨S1,4,rq9 hF,a3.mono fun _ _ h=>(h:False).elim⟩
end
theorem plan1 (r o:Nat) (b x y z:Nat):pinOk 25 [[],[],[],[⟨r,o,o+1,false⟩],[],[],[],[],[],[],[],[],[],[],[],[],[],[],[],[],[],[],[],[],[],[⟨b,4,4+1,false⟩]] (qal E0 (B29.r.r.l).ops).pls=true/\
 pinOk 25 [[],[],[],[⟨r,o,o+1,false⟩],[],[],[],[],[],[],[],[],[],[⟨b,2,2+1,false⟩],[],[],[],[],[⟨x,y,z,false⟩],[],[],[⟨r,o,o+1,false⟩],[],[],[],[⟨b,4,4+1,false⟩]] (qal E0 (B29.r.r.l).ops).pls=true/\stays [] (qal E0 (B29.r.r.l).ops).pls=true:=⟨by kernel_rfl,by kernel_rfl,by kernel_rfl⟩
section
variable {S T U:St} {b N0:Nat} {d:DD} {n:Int} {vI vE:V} {t:Nat}
def qkz (l:List (Bs×Bs)) (a:Bs):Bool:=match l.getLast? with
 | none=>true
 | some y=>ltB y.1 a
theorem lastOk_iff (l:List (Bs×Bs)) (a:Bs):qkz l a=true↔∀y,l.getLast?=some y->ltB y.1 a=true:=by
 unfold qkz;cases l.getLast? with
 | none=>simp
 | some y=>simp
theorem lssStr (c d:Bool) (a b:Bs):qa4 E0 .lss 9 c d (sv a) (sv b)=some (.bool (Op.bytesLess a b)):=by rw[binV_ss,strOp_lss]
theorem last_name (ho:S.on=false) {l:List (Bs×Bs)} {N:Nat} {v:V} (h:VLo S v l N) {y:Bs×Bs} (hy:l.getLast?=some y) (L:List LE):∃r o,ixP 2 v (.int .i64 ((l.length-1:Nat):Int))=some (.ptr r o)/\ld1 (.ptr r o) (S.lg L)=some (sv y.1,S.lg (⟨r,o,o+1,false⟩::L)):=by
 rcases h with⟨rfl,_⟩|⟨r,rfl,h1,h2,h3,h4⟩
 . cases hy
 . refine⟨r,(l.length-1)*2,?_,?_⟩
   . have h0:ixP 2 (.oslice r 0 l.length 2) (.int .i64 ((l.length-1:Nat):Int))=bif Nat.blt (l.length-1) l.length then some (.ptr r (0+(l.length-1)*2))else none:=rfl
     rw[h0,blt_true.2 (by omega),Nat.zero_add,cT]
   . refine qbj ho ?_ L
     obtain⟨c,c1,c2⟩:=h1.row;rw[lM]at c1;have hfit:=h1.fit;rw[lM]at hfit
     have hl:(l.map qg4)[l.length-1]?=some (qg4 y):=by
      rw[List.getElem?_map,<- List.getLast?_eq_getElem?,hy]; rfl
     show ld S r ((l.length-1)*2)=_;unfold ld;rw[c1];dsimp only;rw[blt_true.2 (show(l.length-1)*2<2*l.length by omega),blt_true.2 hfit,Bool.and_self,cT,Nat.mul_div_cancel _ (by decide),c2 _ _ hl,oB,Nat.mul_mod_left];unfold qg4;rw[Tr.get_ofList,qaw ho];rfl
theorem VLo.len {l:List (Bs×Bs)} {N:Nat} {v:V} (h:VLo S v l N) (T:St):lnS v T=some (.int .i64 (l.length:Int),T):=by
 rcases h with⟨rfl,rfl⟩|⟨r,rfl,_⟩
 . rfl
 . exact qjq (fun _ _ e=>by cases e) rfl
set_option maxRecDepth 100000 in
theorem env_front (h:Rd S b N0 d n (qdq t) vI vE) (m:Nat) {vw:V} {w:List Bs} (hw:TL S vw w) {a:Bs} (ha:w[1]?=some a) (la:a.length<1000000) (le:d.env.length<1000) (k:St->Rs) :
 ((ixP 1 vw (.int .i64 1)).bind fun t13=>
(ld1 t13 (onS S)).bind fun p14=>
qej (qal E0 (B29.r.r.l).ops) S 4 [[],[],[],p14.2.log] ((ev E0 KD (m+3)).f 50 [p14.1] (onS p14.2)) fun t15 S15=>
(qa3 true t15).bind fun g17=>(bif g17 then some (.int .i64 (d.env.length:Int))else some (.tuple [])).bind fun t17=>
(qa3 true t15).bind fun g18=>(bif g18 then qa4 E0 .eql 3 false true t17 (.int .i64 0)else some (.tuple [])).bind fun t18=>
(qa3 true t15).bind fun g19=>(bif g19 then some t18 else some (.tuple [])).bind fun t19=>
(qa3 false t19).bind fun g20=>(bif g20 then some (.ptr b 0)else some (.tuple [])).bind fun t20=>
(qa3 false t19).bind fun g21=>(bif g21 then qaf t20 else some (.tuple [])).bind fun t21=>
(qa3 false t19).bind fun g22=>(bif g22 then faP 0 true 4 t21 else some (.tuple [])).bind fun t22=>
(qa3 false t19).bind fun g23=>(bif g23 then faP 2 false 1 t22 else some (.tuple [])).bind fun t23=>
(qa3 false t19).bind fun g24=>(bif g24 then ld1 t23 (onS S15)else some (.tuple [],(onS S15))).bind fun p24=>
(qa3 false t19).bind fun g25=>(bif g25 then some (.int .i64 (d.env.length:Int))else some (.tuple [])).bind fun t25=>
(qa3 false t19).bind fun g26=>(bif g26 then qa4 E0 .sub 3 false true t25 (.int .i64 1)else some (.tuple [])).bind fun t26=>
(qa3 false t19).bind fun g27=>(bif g27 then ixP 2 p24.1 t26 else some (.tuple [])).bind fun t27=>
(qa3 false t19).bind fun g28=>(bif g28 then faP 0 false 1 t27 else some (.tuple [])).bind fun t28=>
(qa3 false t19).bind fun g29=>(bif g29 then ld1 t28 (onS p24.2)else some (.tuple [],(onS p24.2))).bind fun p29=>
(qa3 false t19).bind fun g30=>(bif g30 then some vw else some (.tuple [])).bind fun t30=>
(qa3 false t19).bind fun g31=>(bif g31 then ixP 1 t30 (.int .i64 1)else some (.tuple [])).bind fun t31=>
(qa3 false t19).bind fun g32=>(bif g32 then ld1 t31 (onS p29.2)else some (.tuple [],(onS p29.2))).bind fun p32=>
(qa3 false t19).bind fun g33=>(bif g33 then qa4 E0 .lss 9 false false p29.1 p32.1 else some (.tuple [])).bind fun t33=>
(qa3 true t15).bind fun g34=>(bif g34 then qbl t19 (some (.bool true)) (some t33)else some (.tuple [])).bind fun t34=>
(qbl t15 (some t34) (some (.bool false))).bind fun t35=>
qej (qal E0 (B29.r.r.l).ops) S 25 [[],[],[],p14.2.log,S15.log,[],[],[],[],[],[],[],[],p24.2.log,[],[],[],[],p29.2.log,[],[],p32.2.log,[],[],[]] ((ev E0 KD (m+3)).f 33 [.ptr b 0,t35,(.int .i64 4)] (onS p32.2)) fun t36 S36=>
qi7 [(13,[21]),(18,[21])] S [[],[],[],p14.2.log,S15.log,[],[],[],[],[],[],[],[],p24.2.log,[],[],[],[],p29.2.log,[],[],p32.2.log,[],[],[],S36.log] S36 fun S37=>k S37) =
 if qdt a=true/\qkz d.env a=true then k S else some (.pan (qe7 4 n),S):=by
 have ho:=h.on;obtain⟨t6,c1,c2⟩:=h.ex;obtain⟨p,r,o,p1,p2⟩:=hw.ldOn ho ha [];have hno:∀c L,(ev E0 KD (m+3)).f 33 [.ptr b 0,.bool false,.int .i64 c] (S.lg L)=some (.pan (qe7 c n),S.lg (⟨b,4,4+1,false⟩::L)):=fun c L=>must_no (m+2) c rfl (qbj ho (c1.ld1 ho big6 (by decide) c2.n) L);have f25:∀Q,(ev E0 KD (m+3)).f 50 [sv a] Q=some (.ret (.bool (qdt a)),Q):=fun Q=>f25_run (m+1) a (by omega) Q;rw[show V.int .i64 1=.int .i64 ((1:Nat):Int)from rfl,p1,oB,qb2,p2,oB];dsimp only;rw[qag,qb2,f25,qbf];obtain⟨pl1,pl2,pl3⟩:=plan1 r o b 0 0 0;cases hv:qdt a with
 | false=>
  simp only[qam,qaj,qdy,oB,cF,cT,pickV_bool,qag,qf6];rw[qb2,hno,qmm rfl pl1 pl3,iN (by simp)];rw[relog_S ho]
 | true=>
  simp only[qam,oB,cT];rw[eqI0];by_cases h0:d.env.length=0
  . rw[dT h0]
    simp only[qam,qaj,qdy,oB,cF,cT,pickV_bool,qag,qf6,Bool.not_true]
    have hl:qkz d.env a=true:=by
     unfold qkz;rw[List.length_eq_zero_iff.1 h0];rfl
    rw[qb2,show ev E0 KD (m+3)=ev E0 KD (m+2+1)from rfl,must_yes,qbf,iP ⟨trivial,hl⟩,endP_rd (by rfl),<- qb2,qf9 ho]
  . rw[dF h0]
    obtain⟨y,hy⟩:∃y,d.env.getLast?=some y:=by
     cases hq:d.env.getLast? with
     | none=>rw[List.getLast?_eq_none_iff]at hq; rw[hq]at h0; exact absurd rfl h0
     | some y=>exact⟨y,rfl⟩
    obtain⟨re,oe,x1,x2⟩:=last_name ho h.env hy [];obtain⟨_,pl2,_⟩:=plan1 r o b re oe (oe+1);have hpred:qa4 E0 .sub 3 false true (.int .i64 (d.env.length:Int)) (.int .i64 ((1:Nat):Int))=some (.int .i64 ((d.env.length-1:Nat):Int)):=predN (by omega) (by omega);simp only[qam,qaj,qdy,oB,cF,cT,pickV_bool,qag,qf6,nF,nilP,show faP 0 true 4 (.ptr b 0)=some (.ptr b 0)from rfl,show faP 2 false 1 (.ptr b 0)=some (.ptr b 2)from rfl];rw[qb2,qbj ho (c1.ld1 ho big6 (by decide) c2.env) [],oB,hpred,oB];dsimp only;rw[x1,oB,show faP 0 false 1 (.ptr re oe)=some (.ptr re oe)from rfl,oB,qag,qb2,x2,oB];dsimp only;rw[p1,oB,qag,qb2,p2,oB];dsimp only;rw[lssStr,oB];have hl:qkz d.env a=Op.bytesLess y.1 a:=by unfold qkz; rw[hy]; exact ltB_eq _ _
    rw[hl,qag];cases Op.bytesLess y.1 a with
    | false=>
     rw[qb2,hno,iN (by simp),qmm rfl pl2 pl3,relog_S ho]
    | true=>
     rw[qb2,show ev E0 KD (m+3)=ev E0 KD (m+2+1)from rfl,must_yes,qbf,iP ⟨trivial,rfl⟩,endP_rd (by rfl),<- qb2,qf9 ho]
end
theorem plan2 (r o q p b:Nat):pinOk 7 [[],[],[⟨r,o,o+1,false⟩],[],[],[],[⟨q,p,p+1,false⟩],[⟨b,4,4+1,false⟩]] (qal E0 (B29.r.r.r.l).ops).pls=true/\stays [] (qal E0 (B29.r.r.r.l).ops).pls=true:=⟨by kernel_rfl,by kernel_rfl⟩
theorem build_41 (a v:Bs):qd3 E0 41 [(0,sv a),(1,sv v)]=some (.agg 2 (qg4 (a,v))):=by kernel_rfl
noncomputable def Z50:Tr V:=Tr.ofListFrom .nil [(sv []),(sv [])] 0
section
variable {S T U W:St} {b N0:Nat} {d:DD} {n:Int} {vI vE:V} {t:Nat}
theorem pairsB2 {r o q p N:Nat} (hr:r≠N) (hq:q≠N) (L l':List LE) (hL:L=[⟨N,0,big,true⟩]):qaq [[],[],[⟨r,o,o+1,false⟩],[],[],[],[⟨q,p,p+1,false⟩],[],[],L,l'] [(2,[6,7,9]),(6,[9]),(7,[9])]=true:=by
 subst hL;have h1:qbu [⟨r,o,o+1,false⟩] [⟨q,p,p+1,false⟩]=false:=qc3 (by simp);have h2:qbu [⟨r,o,o+1,false⟩] [⟨N,0,big,true⟩]=false:=qc3 (by simp[hr]);have h3:qbu [⟨q,p,p+1,false⟩] [⟨N,0,big,true⟩]=false:=qc3 (by simp[hq]);show(bif (bif qbu [⟨r,o,o+1,false⟩] [⟨q,p,p+1,false⟩]then true else(bif qbu [⟨r,o,o+1,false⟩] []then true else(bif qbu [⟨r,o,o+1,false⟩] [⟨N,0,big,true⟩]then true else false)))then false else(bif (bif qbu [⟨q,p,p+1,false⟩] [⟨N,0,big,true⟩]then true else false)then false else(bif (bif qbu ([]:List LE) [⟨N,0,big,true⟩]then true else false)then false else true)))=true;rw[h1,h2,h3];rfl
theorem TL.ldOn' (ho:S.on=false) {v:V} {l:List Bs} (h:TL S v l) {i:Nat} {a:Bs} (ha:l[i]?=some a) (L:List LE):∃p r o,ixP 1 v (.int .i64 (i:Int))=some p/\ld1 p (S.lg L)=some (sv a,S.lg (⟨r,o,o+1,false⟩::L))/\r<S.next:=by
 rcases h with⟨rfl,_⟩|⟨r,off,M,h1,h2,h3,h4,h5⟩
 . simp at ha
 . obtain⟨r',o,M',x1,x2,x3⟩:=TL.ix (S:=S) (.inr ⟨r,off,M,h1,h2,h3,h4,h5⟩) ha
   refine⟨_,r',o,x1,qbj ho (show ld1 (.ptr r' o) S=_ from x2.ld1 ho x3) L,?_⟩
   have:r'=r:=by
    rcases h5 with rfl|⟨c,rfl⟩
    . have h0:ixP 1 (.oslice r off l.length 1) (.int .i64 (i:Int))=bif Nat.blt i l.length then some (.ptr r (off+i*1))else none:=rfl
      rw[h0]at x1;cases hb:Nat.blt i l.length with
      | false=>rw[hb]at x1; cases x1
      | true=>rw[hb]at x1; cases x1; rfl
    . have h0:ixP 1 (.slice r off l.length c) (.int .i64 (i:Int))=bif Nat.blt i l.length then some (.ptr r (off+i*1))else none:=rfl
      rw[h0]at x1;cases hb:Nat.blt i l.length with
      | false=>rw[hb]at x1; cases x1
      | true=>rw[hb]at x1; cases x1; rfl
   rw[this]; exact h2
theorem val_k (m:Nat) (s:Bs) (hs:s.length<=20000) (S:St):(ev E0 KD (m+1)).f 62 [.ptr b 0,sv s] S=match valD s with
 | some v=>some (.ret (sv v),S)
 | none=>(ld S b 4).bind fun p=>match p.1 with
  | .int .i64 n=>some (.pan (qe7 4 n),p.2)
  | _=>none:=by
 rw[qc4 (show KD 62=some kfVal from rfl)];exact kfVal_run b s hs S
set_option maxRecDepth 100000 in
theorem env_mid (h:Rd S b N0 d n (qdq t) vI vE) (m:Nat) {vw:V} {w:List Bs} (hw:TL S vw w) {a s:Bs} (ha:w[1]?=some a) (hs:w[2]?=some s) (ls:s.length<=20000) :
 match valD s with
 | some v=>∃U X,(∀k:V×St->St->Rs,((ixP 1 vw (.int .i64 1)).bind fun t39=>
(ld1 t39 (onS S)).bind fun p40=>
(ixP 1 vw (.int .i64 2)).bind fun t43=>
(ld1 t43 (onS p40.2)).bind fun p44=>
qej (qal E0 (B29.r.r.r.l).ops) S 7 [[],[],p40.2.log,[],[],[],p44.2.log] ((ev E0 KD (m+3)).f 62 [.ptr b 0,p44.1] (onS p44.2)) fun t45 S45=>
(qd3 E0 41 [(0,p40.1),(1,t45)]).bind fun t46=>
(some (nwP 41 2 (Tr.ofListFrom .nil [(sv []),(sv [])] 0) (onS S45))).bind fun p47=>
(stP 2 p47.1 t46 (onS p47.2)).bind fun p48=>
qi7 [(2,[6,7,9]),(6,[9]),(7,[9])] S [[],[],p40.2.log,[],[],[],p44.2.log,S45.log,[],p47.2.log,p48.2.log] p48.2 fun S49=>k p47 S49)=k (.ptr S.next 0,X) U)/\AgAt U S.next 41 2 (qg4 (a,v))/\Grew (fun _=>False) S U/\S.next<U.next
 | none=>∀k:V×St->St->Rs,((ixP 1 vw (.int .i64 1)).bind fun t39=>
(ld1 t39 (onS S)).bind fun p40=>
(ixP 1 vw (.int .i64 2)).bind fun t43=>
(ld1 t43 (onS p40.2)).bind fun p44=>
qej (qal E0 (B29.r.r.r.l).ops) S 7 [[],[],p40.2.log,[],[],[],p44.2.log] ((ev E0 KD (m+3)).f 62 [.ptr b 0,p44.1] (onS p44.2)) fun t45 S45=>
(qd3 E0 41 [(0,p40.1),(1,t45)]).bind fun t46=>
(some (nwP 41 2 (Tr.ofListFrom .nil [(sv []),(sv [])] 0) (onS S45))).bind fun p47=>
(stP 2 p47.1 t46 (onS p47.2)).bind fun p48=>
qi7 [(2,[6,7,9]),(6,[9]),(7,[9])] S [[],[],p40.2.log,[],[],[],p44.2.log,S45.log,[],p47.2.log,p48.2.log] p48.2 fun S49=>k p47 S49)=some (.pan (qe7 4 n),S):=by
 have ho:=h.on;obtain⟨t6,c1,c2⟩:=h.ex;obtain⟨p,r,o,p1,p2,p3⟩:=TL.ldOn' ho hw ha [];obtain⟨q,r',o',q1,q2,q3⟩:=TL.ldOn' ho hw hs [];have hk:=val_k (b:=b) (m+2) s ls (S.lg [])
 have e1:∀(F:V->V×St->Rs),((ixP 1 vw (.int .i64 1)).bind fun t39=>(ld1 t39 (onS S)).bind fun p40=>F t39 p40)=F p (sv a,S.lg [⟨r,o,o+1,false⟩]):=fun F=>by
  rw[show V.int .i64 1=.int .i64 ((1:Nat):Int)from rfl,p1,oB,qb2,p2,oB]
 have e2:∀(F:V->V×St->Rs),((ixP 1 vw (.int .i64 2)).bind fun t39=>(ld1 t39 (onS (S.lg [⟨r,o,o+1,false⟩]))).bind fun p40=>F t39 p40)=F q (sv s,S.lg [⟨r',o',o'+1,false⟩]):=fun F=>by
  rw[show V.int .i64 2=.int .i64 ((2:Nat):Int)from rfl,q1,oB,qag,qb2,q2,oB]
 cases hv:valD s with
 | none=>
  rw[hv]at hk;dsimp only at hk ⊢;intro k;rw[show ld (S.lg []) b 4=some (.int .i64 n,S.lg [⟨b,4,4+1,false⟩])from qbj ho (c1.ld1 ho big6 (by decide) c2.n) [],oB]at hk;dsimp only at hk;rw[e1];dsimp only;rw[e2];dsimp only;rw[qag,qb2,hk,qmm rfl (plan2 r o r' o' b).1 (plan2 r o r' o' b).2,relog_S ho]
 | some v=>
  rw[hv]at hk;dsimp only at hk ⊢;obtain⟨a1,a2,a3⟩:=qbt ho 41 2 Z50;have on1:=a2.on.trans ho;obtain⟨U1,b1,b2,b3,b4⟩:=a1.stA on1 big2 (qg4 (a,v));obtain⟨l',b1'⟩:=qk4 on1 b1;obtain⟨U,r1,r2,r3,r4⟩:=qf8 ho U1 l' [[],[],[⟨r,o,o+1,false⟩],[],[],[],[⟨r',o',o'+1,false⟩],[],[],[⟨S.next,0,big,true⟩],l'];have n1:=b3.next
  refine⟨U,(nwP 41 2 Z50 S).2.lg [⟨S.next,0,big,true⟩],fun k=>?_,?_,(a2.own (lR _) b3).trans (Grew.of_eq r2 r3 (r4.trans (b3.on.trans on1).symm)),by omega⟩
  . rw[e1]
    dsimp only;rw[e2];dsimp only;rw[qag,qb2,hk,qbf,build_41,oB,oB,qag,qb2]
    have hnw:nwP 41 2 (Tr.ofListFrom .nil [(sv []),(sv [])] 0) (S.lg [])=(.ptr S.next 0,(nwP 41 2 Z50 S).2.lg [⟨S.next,0,big,true⟩]):=by
     show(V.ptr S.next 0,qae (S.lg []) 41 2 [Z50])=_;rw[qng ho];rfl
    rw[hnw];dsimp only;rw[qag,qb2,b1',oB];dsimp only;rw[show(S.lg [⟨r,o,o+1,false⟩]).log=[⟨r,o,o+1,false⟩]from rfl,show(S.lg [⟨r',o',o'+1,false⟩]).log=[⟨r',o',o'+1,false⟩]from rfl,show(S.lg []).log=[]from rfl,show((nwP 41 2 Z50 S).2.lg [⟨S.next,0,big,true⟩]).log=[⟨S.next,0,big,true⟩]from rfl,show(U1.lg l').log=l' from rfl,qbw (pairsB2 (by omega) (by omega) _ l' rfl),r1]
  . obtain⟨c,d1,d2⟩:=b2
    exact⟨c,by rw[r2]; exact d1,d2⟩
end
end Go.Proofs.YtpgegoeghaplkaaGreatDoor.W
