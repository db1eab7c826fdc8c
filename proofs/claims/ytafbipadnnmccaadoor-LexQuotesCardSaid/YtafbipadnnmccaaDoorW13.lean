/-
  WHAT THE FUNCTIONS COME TO: each is read by the evaluator,printed,and told as a function of data,part 13 of 13 (no condition).
-/
import Derived.Test.YtafbipadnnmccaaDoorW12
import Derived.WalkKit
import Derived.ProofKit
import Derived.OpenShut
import Derived.Carry
import Derived.ChangeMaps5
import Derived.Lib.SmallJoins
namespace Go.Proofs.YtafbipadnnmccaaDoor.W
open Go.Proofs.YtafbipadnnmccaaDoor.Ev Go.RowKit
def TV (v:V) (l:List Bs):Prop:=(l=[]/\(v=.nilslice\/v=.eslice))\/v=.list 1 (l.map sv)
def qls (a:Bs):Bs:=qd4 39 [] (a.take (min a.length 100))
theorem cutB_len (a:Bs):(qls a).length<=100:=by
 have h:=qmx 39 [] (a.take (min a.length 100));rw[List.length_nil,Nat.mul_zero,List.length_take]at h;unfold qls;omega
theorem cutB_no (a:Bs):(39:UInt8)∉qls a:=rpl_no 39 [] (by decide) _
theorem oneB_len (t:Bs):(oneB t).length=t.length+3:=by unfold oneB; simp
theorem twoB_len (t:Bs):(qn9 t).length<=2*t.length+3:=by
 have:=esc_len t;unfold qn9;simp only[lAq,List.length_cons,List.length_nil];omega
section
variable {K:FuncId->Option KF} {S U T:St}
theorem TV.len {v:V} {l:List Bs} (h:TV v l) (S:St):lnS v S=some (.int .i64 (l.length:Int),S):=by
 rcases h with⟨rfl,rfl|rfl⟩|rfl
 . rfl
 . rfl
 . show some (V.int .i64 (Int.ofNat (l.map sv).length),S)=_
   rw[lM]; rfl
theorem TV.ix {v:V} {l:List Bs} (h:TV v l) {i:Nat} {a:Bs} (ha:l[i]?=some a):ixP 1 v (.int .i64 (i:Int))=some (.cptr (sv a)):=by
 rcases h with⟨rfl,_⟩|rfl
 . simp at ha
 . show(bif Nat.beq 1 1&&Nat.blt 0 1 then((l.map sv)[i]?).bind fun v=>some (V.cptr v)else none)=_
   rw[List.getElem?_map,ha]; rfl
theorem ld_c (a:Bs) (S:St):ld1 (.cptr (sv a)) S=some (sv a,S):=rfl
theorem ltC (a b:Nat):qa5 E0 .lss 3 false true (.int .i64 (a:Int)) (.int .i64 (b:Int))=some (.bool (decide (a<b))):=by
 rw[binV_ii,intsV_lss]
 congr 2
 rw[decide_eq_decide];omega
theorem quad_bounds (t:Bs) (h:t.length<=100):(qd4 92 [92,92] t).length<=200/\(qd4 34 [92,34] (qd4 92 [92,92] t)).length<=400/\(qd4 36 [92,36] (qd4 34 [92,34] (qd4 92 [92,92] t))).length<=800:=by
 have key:∀(c:UInt8) (x y:UInt8) (s:Bs),(qd4 c [x,y] s).length<=2*s.length:=fun c x y s=>by
  have h1:=qmx c [x,y] s;have h2:=cnt_le s c;simp only[List.length_cons,List.length_nil]at h1;omega
 have h1:=key 92 92 92 t;have h2:=key 34 92 34 (qd4 92 [92,92] t);have h3:=key 36 92 36 (qd4 34 [92,34] (qd4 92 [92,92] t));omega
theorem q_step (hK:KB K) (hL:Lg.KnLoc K) (m:Nat) (N0:Nat) (nk:Ac->St->Rs) (ek:Nat->Ac->St->Rs) {v0 v5:V} {l ts:List Bs} {a sOne sTwo:Bs} {N i:Nat} (q:Nat) (ho:S.on=false) (hTV:TV v0 l) (hi:l[i]?=some a) (h20:i<20) (hW:TLo S v5 ts N) (hN:N<=S.next) (h1:sOne.length<50000) (h2:sTwo.length<50000) (hts:ts.length<1000) :
 ∃U v5',L6_155 (ev E0 K (m+5)) N0 nk ek (q+1) v0 (sv sOne) (sv sTwo) v5 (.int .i64 (i:Int)) S=L6_155 (ev E0 K (m+5)) N0 nk ek q v0 (sv (sOne++oneB (qls a))) (sv (sTwo++qn9 (qls a))) v5' (.int .i64 ((i+1:Nat):Int)) U/\TLo U v5' (ts++[qls a]) N/\Grew (fun x=>N<=x) S U:=by
 have hlt:=(List.getElem?_eq_some_iff.1 hi).1;have hma:min a.length 100<=a.length:=Nat.min_le_left ..;have hcl:=cutB_len a;have hqb:=quad_bounds (qls a) hcl;obtain⟨U1,a1,g1⟩:=qmy hK (S:=S) m (a.take (min a.length 100)) (by rw[List.length_take]; omega) 39 [] (by decide) (by decide) ho;obtain⟨L,a1'⟩:=Lg.ev_lg hL a1 [];have o1:=g1.on.trans ho;obtain⟨U2,r1,r2,r3,r4⟩:=qdn ho U1 [] [[],[],[],[],[],[],[],[],[],[],[],L,[]];have gU:Grew (fun _=>False) U1 U2:=grew_eq r2 r3 (r4.trans o1.symm);obtain⟨U3,b1,g3⟩:=qmy hK (S:=U2) m (qls a) (by omega) 92 [92,92] (by decide) (by decide) r4;have o3:=g3.on.trans r4;obtain⟨U4,b2,g4⟩:=qmy hK (S:=U3) m (qd4 92 [92,92] (qls a)) (by omega) 34 [92,34] (by decide) (by decide) o3;have o4:=g4.on.trans o3;obtain⟨U5,b3,g5⟩:=qmy hK (S:=U4) m (qd4 34 [92,34] (qd4 92 [92,92] (qls a))) (by omega) 36 [92,36] (by decide) (by decide) o4;have o5:=g5.on.trans o4;obtain⟨U6,b4,g6⟩:=qmy hK (S:=U5) m (qd4 36 [92,36] (qd4 34 [92,34] (qd4 92 [92,92] (qls a)))) (by omega) 96 [92,96] (by decide) (by decide) o5;have o6:=g6.on.trans o5;have hq:qd4 96 [92,96] (qd4 36 [92,36] (qd4 34 [92,34] (qd4 92 [92,92] (qls a))))=qen (qls a):=quad_esc (qls a);rw[hq]at b4;have hel:=esc_len (qls a);have g:Grew (fun _=>False) S U6:=g1.trans (gU.trans (g3.trans (g4.trans (g5.trans g6))));have hW6:=hW.grew g;have hn6:=g.next
 obtain⟨y,W,v5',U,p1,p2,p3,p4⟩:=hW6.push2 o6 (by omega) (by omega) (qls a);refine⟨U,v5',?_,p3,(g.mono fun x _ h=>h.elim).trans (p4.mono fun x _ hx=>?_)⟩
 . rw[L6_155_eq,hTV.len,b_s]
   dsimp only;rw[qk5,dT hlt,b_s,g_t,b_s,c_t,b_s,b_s,c_t,show(V.int .i64 20)=.int .i64 ((20:Nat):Int)from rfl,ltC,dT h20,b_s,p_b,c_t,b_s,i_b,c_t,hTV.ix hi,b_s,ld_c,b_s];dsimp only;rw[b_s,ld_c,b_s];dsimp only;rw[ln_s,b_s];dsimp only;rw[show(V.int .i64 100)=.int .i64 ((100:Nat):Int)from rfl,minL,b_s];dsimp only;rw[qb9 und9 a (qey .i64 hma) hma,b_s,List.drop_zero,Nat.sub_zero];dsimp only;simp only[lons',llg',lg_log];rw[a1',qc8];rw[qfm (show qag [[],[],[],[],[],[],[],[],[],[],[],(U1.lg L).log,[]] [(3,[7,8,9])]=true from rfl),llg',lg_log,r1];rw[show qd4 39 [] (a.take (min a.length 100))=qls a from rfl];rw[cat10 _ _ _ (by omega) _ (by decide),b_s,cat10 _ _ _ (by rw[lAq]; simp only[List.length_cons,List.length_nil]; omega) _ (by omega),b_s,cat10 _ _ _ (by rw[lAq,lAq]; simp only[List.length_cons,List.length_nil]; omega) _ (by decide),b_s];rw[b1,callP_ret,b2,callP_ret,b3,callP_ret,b4,callP_ret];rw[cat10 _ _ _ (by omega) _ (by decide),b_s,cat10 _ _ _ (by rw[lAq]; simp only[List.length_cons,List.length_nil]; omega) _ (by omega),b_s,cat10 _ _ _ (by rw[lAq,lAq]; simp only[List.length_cons,List.length_nil]; omega) _ (by decide),b_s];rw[p1,b_s];dsimp only;rw[p2,b_s];dsimp only;rw[qff (by omega),b_s];rw[show sOne++[39]++qls a++[39,32]=sOne++oneB (qls a) by unfold oneB; simp,show sTwo++[34]++qen (qls a)++[34,9]=sTwo++qn9 (qls a) by unfold qn9; simp]
 . rcases hW with⟨_,rfl⟩|⟨r,rfl,_,_,hr,_⟩
   . cases hx
   . cases hx
     exact hr
end
theorem flat_le (f:Bs->Bs) (B:Nat):∀ts:List Bs,(∀t∈ts,(f t).length<=B)->((ts.map f).flatten).length<=B*ts.length
 | [],_=>Nat.zero_le _
 | t::ts,h=>by
  have h1:=h t (List.mem_cons_self ..);have h2:=flat_le f B ts fun x hx=>h x (mO _ hx);rw[List.map_cons,List.flatten_cons,lAq,List.length_cons,Nat.mul_succ];omega
def qe9 (l:List Bs) (n:Nat):List Bs:=(l.take n).map qls
theorem cuts_succ {l:List Bs} {i:Nat} {a:Bs} (h:l[i]?=some a):qe9 l (i+1)=qe9 l i++[qls a]:=by
 unfold qe9;rw[List.take_add_one,h,List.map_append];rfl
theorem qks (l:List Bs) (n:Nat):(qe9 l n).length<=n:=by
 unfold qe9;rw[lM,List.length_take];omega
theorem cuts_mem {l:List Bs} {n:Nat} {t:Bs} (h:t∈qe9 l n):t.length<=100/\(39:UInt8)∉t:=by
 unfold qe9 at h;obtain⟨a,_,rfl⟩:=List.mem_map.1 h;exact⟨cutB_len a,cutB_no a⟩
def qf9 (ts:List Bs):Bs:=(ts.map oneB).flatten
def qem (ts:List Bs):Bs:=(ts.map qn9).flatten
theorem oneAll_push (ts:List Bs) (t:Bs):qf9 (ts++[t])=qf9 ts++oneB t:=by
 unfold qf9;rw[List.map_append,List.flatten_append];simp
theorem twoAll_push (ts:List Bs) (t:Bs):qem (ts++[t])=qem ts++qn9 t:=by
 unfold qem;rw[List.map_append,List.flatten_append];simp
theorem oneAll_len (l:List Bs) (n:Nat):(qf9 (qe9 l n)).length<=103*n:=by
 have h:=flat_le oneB 103 (qe9 l n) fun t ht=>by have:=(cuts_mem ht).1; rw[oneB_len]; omega
 have h2:=qks l n;have:103*(qe9 l n).length<=103*n:=Nat.mul_le_mul_left _ h2;unfold qf9;omega
theorem twoAll_len (l:List Bs) (n:Nat):(qem (qe9 l n)).length<=203*n:=by
 have h:=flat_le qn9 203 (qe9 l n) fun t ht=>by have:=(cuts_mem ht).1; have:=twoB_len t; omega
 have h2:=qks l n;have:203*(qe9 l n).length<=203*n:=Nat.mul_le_mul_left _ h2;unfold qem;omega
section
variable {K:FuncId->Option KF} {S U T:St}
theorem q_loop (hK:KB K) (hL:Lg.KnLoc K) (m:Nat) (N0:Nat) (nk:Ac->St->Rs) (ek:Nat->Ac->St->Rs) {v0:V} {l:List Bs} {N:Nat} (hTV:TV v0 l) :
 ∀(k j q:Nat) (S:St) (v5:V),j+k=min l.length 20->k<q->S.on=false->TLo S v5 (qe9 l j) N->N<=S.next->
 ∃U v5',L6_155 (ev E0 K (m+5)) N0 nk ek q v0 (sv (qf9 (qe9 l j))) (sv (qem (qe9 l j))) v5 (.int .i64 (j:Int)) S=ek 0 (fr 188 [(3,sv (qf9 (qe9 l (min l.length 20)))),(4,sv (qem (qe9 l (min l.length 20)))),(5,v5')]) U/\TLo U v5' (qe9 l (min l.length 20)) N/\Grew (fun x=>N<=x) S U
 | k,j,0,S,v5,_,hq,_,_,_=>absurd hq (Nat.not_lt_zero _)
 | 0,j,q+1,S,v5,hj,hq,ho,hW,hN=>by
  have hjm:j=min l.length 20:=by omega
  subst hjm;refine⟨S,v5,?_,hW,Grew.refl _ _⟩;rw[L6_155_eq,hTV.len,b_s];dsimp only;by_cases hl:min l.length 20<l.length
  . rw[qk5,dT hl,b_s,g_t,b_s,c_t,b_s,b_s,c_t,show(V.int .i64 20)=.int .i64 ((20:Nat):Int)from rfl,ltC,dF (by omega),b_s,p_b,c_t,b_s,i_b,c_f]
  . rw[qk5,dF hl,b_s,g_t,b_s,c_f,b_s,b_s,c_f,b_s,p_b,c_f,b_s,i_b,c_f]
 | k+1,j,q+1,S,v5,hj,hq,ho,hW,hN=>by
  have hjl:j<l.length:=by omega
  have hji:l[j]?=some l[j]:=List.getElem?_eq_getElem hjl;have h1:=oneAll_len l j;have h2:=twoAll_len l j;have h3:=qks l j;obtain⟨U1,w5,a1,a2,a3⟩:=q_step (sOne:=qf9 (qe9 l j)) (sTwo:=qem (qe9 l j)) hK hL m N0 nk ek q ho hTV hji (by omega) hW hN (by omega) (by omega) (by omega);rw[<- oneAll_push,<- twoAll_push,<- cuts_succ hji]at a1;rw[<- cuts_succ hji]at a2;obtain⟨U2,x5,b1,b2,b3⟩:=q_loop hK hL m N0 nk ek hTV k (j+1) q U1 w5 (by omega) (by omega) (a3.on.trans ho) a2 (Nat.le_trans hN a3.next);exact⟨U2,x5,a1.trans b1,b2,a3.trans b3⟩
theorem tok_one (ho:S.on=false) {v:V} {A:List Tok} (hv:VwT S v A) {i:Nat} {t:Tok} {w:Bs} {qd:Bool} (hi:A[i]?=some t) (hp:t.parts=[.mk 1 w [] qd []]) :
 ∃r c u r',ixP 5 v (.int .i64 (i:Int))=some (.ptr r c)/\ld1 (.ptr r (c+2)) S=some (u,S)/\(∀T,lnS u T=some (.int .i64 ((1:Nat):Int),T))/\ixP 6 u (.int .i64 ((0:Nat):Int))=some (.ptr r' (0*6))/\ld1 (.ptr r' (0*6+0)) S=some (.int .i64 ((1:Nat):Int),S)/\ld1 (.ptr r' (0*6+1)) S=some (sv w,S)/\ld1 (.ptr r' (0*6+3)) S=some (.bool qd,S):=by
 obtain⟨r,c,u,ru,Q,k1,hu,hw,_,_,w2,_,_⟩:=hv.2.2 i t hi;rw[hp]at hw;simp only[PrAt]at hw;obtain⟨x,rest,rfl,hx,rfl⟩:=hw;simp only[PtAt]at hx;obtain⟨u',ru',rfl,_⟩:=hx;obtain⟨r',_,e2,e3,e4⟩:=hu.at (i:=0) (by simp)
 have hg:([qdo 1 w [] qd u']:List (Tr V))[0]?=some (qdo 1 w [] qd u'):=rfl;exact⟨r,c,u,r',k1,w2,fun T=>hu.len T,e2,qfe ho e3 hg (by decide) (rowP0 1 w [] qd u'),qfe ho e3 hg (by decide) (rowP1 1 w [] qd u'),qfe ho e3 hg (by decide) (rowP3 1 w [] qd u')⟩
set_option maxRecDepth 100000 in
theorem cmp_step (self:EV) (N:Nat) (nk:Ac->St->Rs) (ek:Nat->Ac->St->Rs) {v5 v9 v11:V} {ts:List Bs} {A B:List Tok} (ho:S.on=false) (hw:TL S v5 ts) (ha:VwT S v9 A) (hb:VwT S v11 B) (hA:A.map Tok.parts=ts.map fun t=>[Part.mk 1 t [] false []]) (hB:B.map Tok.parts=ts.map fun t=>[Part.mk 1 t [] true []]) (j q:Nat) (hj:j<ts.length) (hs:ts.length<1000) :
 L6_55 self N nk ek (q+1) v5 v9 v11 (.int .i64 (j:Int)) S=L6_55 self N nk ek q v5 v9 v11 (.int .i64 ((j+1:Nat):Int)) S:=by
 have htj:ts[j]?=some ts[j]:=List.getElem?_eq_getElem hj;generalize ts[j]=t at htj
 have pick:∀(Z:List Tok) (f:Bs->List Part),Z.map Tok.parts=ts.map f->∃z,Z[j]?=some z/\z.parts=f t:=fun Z f hz=>by
  have h1:=congrArg (fun l:List (List Part)=>l[j]?) hz;simp only[List.getElem?_map,htj,Option.map_some]at h1;cases hZ:Z[j]? with
  | none=>rw[hZ]at h1; cases h1
  | some z=>rw[hZ]at h1; exact⟨z,rfl,Option.some.inj h1⟩
 obtain⟨x,x1,x2⟩:=pick A _ hA;obtain⟨y,y1,y2⟩:=pick B _ hB;obtain⟨r,c,u,r',a1,a2,a3,a4,a5,a6,a7⟩:=tok_one ho ha x1 x2;obtain⟨s,d,w,s',b1,b2,b3,b4,b5,b6,b7⟩:=tok_one ho hb y1 y2;obtain⟨p,o,M,w1,w2,w3⟩:=hw.ix htj;have wl:=fun L=>qc5 ho (show ld1 (.ptr p o) S=_ from w2.ld1 ho w3) L;have f0:∀i,faP i false 1 (.ptr r c)=some (.ptr r (c+i)):=fun i=>faPg i 0 _ false r;have f0':∀i,faP i false 1 (.ptr r' (0*6))=some (.ptr r' (0*6+i)):=fun i=>faPg i 0 _ false r';have h0:∀i,faP i false 1 (.ptr s d)=some (.ptr s (d+i)):=fun i=>faPg i 0 _ false s;have h0':∀i,faP i false 1 (.ptr s' (0*6))=some (.ptr s' (0*6+i)):=fun i=>faPg i 0 _ false s';have A2:=fun L=>qc5 ho a2 L;have A5:=fun L=>qc5 ho a5 L;have A6:=fun L=>qc5 ho a6 L;have A7:=fun L=>qc5 ho a7 L;have B2:=fun L=>qc5 ho b2 L;have B5:=fun L=>qc5 ho b5 L;have B6:=fun L=>qc5 ho b6 L;have B7:=fun L=>qc5 ho b7 L;have n1:qa5 E0 .neq 3 false true (.int .i64 ((1:Nat):Int)) (.int .i64 1)=some (.bool false):=rfl;have a4':ixP 6 u (.int .i64 0)=some (.ptr r' (0*6)):=a4;have b4':ixP 6 w (.int .i64 0)=some (.ptr s' (0*6)):=b4;rw[L6_55_eq,hw.len,b_s];dsimp only;rw[qk5,dT hj,b_s,i_b,c_t];simp only[a1,b_s,f0,f0',lons',llg',A2,A5,A6,A7,a3,a4',n1,w1,wl,ne9s,g_f,c_t,c_f,p_b,nF,lg_log];rw[qbq (by rfl),qd2 ho,i_b,c_f]
 simp only[b1,b_s,h0,h0',lons',llg',B2,B5,B6,B7,b3,b4',n1,w1,wl,ne9s,g_f,c_t,c_f,p_b,nF,Bool.not_true,u_not,lg_log];rw[qbq (by rfl),qd2 ho,i_b,c_f,qff (by omega),b_s]
theorem cmp_loop (self:EV) (N:Nat) (nk:Ac->St->Rs) (ek:Nat->Ac->St->Rs) {v5 v9 v11:V} {ts:List Bs} {A B:List Tok} (ho:S.on=false) (hw:TL S v5 ts) (ha:VwT S v9 A) (hb:VwT S v11 B) (hA:A.map Tok.parts=ts.map fun t=>[Part.mk 1 t [] false []]) (hB:B.map Tok.parts=ts.map fun t=>[Part.mk 1 t [] true []]) (hs:ts.length<1000) :
 ∀(k j q:Nat),j+k=ts.length->k<q->L6_55 self N nk ek q v5 v9 v11 (.int .i64 (j:Int)) S=ek 2 (fr 188 []) S
 | k,j,0,_,hq=>absurd hq (Nat.not_lt_zero _)
 | 0,j,q+1,hj,hq=>by
  rw[L6_55_eq,hw.len,b_s];dsimp only;rw[qk5,dF (by omega),b_s,i_b,c_f]
 | k+1,j,q+1,hj,hq=>by
  rw[cmp_step self N nk ek ho hw ha hb hA hB j q (by omega) hs];exact cmp_loop self N nk ek ho hw ha hb hA hB hs k (j+1) q (by omega) (by omega)
end
section
variable {K:FuncId->Option KF} {S U T:St}
theorem rv6 (h:K 6=none) {n:Nat} {args:List V} {s:St} {r:En×St} (e:qdg E0 (ev E0 K n) qa3 Tryd.f6 B6 args s=some r):(ev E0 K (n+1)).f 6 args s=some r:=qa9 (c:=C6) (d:=B6) (by kernel_rfl) (by kernel_rfl) (qa4 C6 _ (by kernel_rfl)) h e
theorem gtC (a b:Nat):qa5 E0 .gtr 3 false true (.int .i64 (a:Int)) (.int .i64 (b:Int))=some (.bool (decide (b<a))):=by
 rw[binV_ii,intsV_gtr]
 congr 2
 rw[decide_eq_decide];omega
theorem quotes_rest (d:Nat) (hd:92000<=d) (ts:List Bs) {v5:V} (ho:S.on=false) (hw:TL S v5 ts) (hts:∀t∈ts,(39:UInt8)∉t) (hn:ts.length<=20) (h1:(qf9 ts).length<=2060) (h2:(qem ts).length<=4060) :
 ∃U,R6_7 (ev E0 KP (d+40)) qa3 (qbu E0 (ev E0 KP (d+40)) Tryd.f6) qav (fr 188 [(3,sv (qf9 ts)),(4,sv (qem ts)),(5,v5)]) S=some (.ret (.bool true),U)/\Grew (fun _=>False) S U:=by
 generalize hE0:R6_7 (ev E0 KP (d+40)) qa3 (qbu E0 (ev E0 KP (d+40)) Tryd.f6) qav (fr 188 [(3,sv (qf9 ts)),(4,sv (qem ts)),(5,v5)]) S=R;have hE:=hE0;obtain⟨U1,va,ea,ra,q1,q2,q3⟩:=lex_anyK refP d (qf9 ts) ho (by omega) hd;have o1:=q2.on.trans ho;obtain⟨U2,vb,eb,rb,w1,w2,w3⟩:=lex_anyK refP d (qem ts) o1 (by omega) hd;have o2:=w2.on.trans o1;rw[R6_7_eq,q1,callP_ret,ex0,b_s,ex1,b_s,w1,callP_ret,ex0,b_s,ex1,b_s,ln_s,b_s]at hE;dsimp only at hE;rw[show(V.int .i64 4000)=.int .i64 ((4000:Nat):Int)from rfl,gtC,dF (by omega),b_s]at hE;simp only[g_f,nF,b_s,c_t,p_b,c_f]at hE;rw[ln_s,b_s]at hE;dsimp only at hE;rw[gtC,b_s,i_b]at hE;by_cases hl:4000<(qem ts).length
 . rw[dT hl,c_t]at hE
   exact⟨U2,hE.symm,q2.trans w2⟩
 rw[dF hl,c_f]at hE;obtain⟨A,hA1,hA2⟩:=one_law ts hts;obtain⟨B,hB1,hB2⟩:=two_law ts;have hA:qif (qf9 ts)=.ok A:=(lexA_of (by omega)).trans hA1;have hB:qif (qem ts)=.ok B:=(lexA_of (by omega)).trans hB1;rcases q3 with⟨Ta,hTa,rfl,ha,hta⟩|⟨f,x,hTa,rfl,rfl,rfl⟩
 . rw[hA]at hTa
   cases hTa;rcases w3 with⟨Tb,hTb,rfl,hb,htb⟩|⟨f,x,hTb,rfl,rfl,rfl⟩
   . rw[hB]at hTb
     cases hTb;have lA:A.length=ts.length:=by have:=congrArg List.length hA2; rwa [lM,lM]at this
     have lB:B.length=ts.length:=by have:=congrArg List.length hB2; rwa [lM,lM]at this
     have hva:VwT U2 va A:=vw_of o2 (ha.grew (fun _ _ h=>h) w2) (hta.grew w2 (fun _ _ h=>h)) (by omega);have hvb:VwT U2 vb B:=vw_of o2 hb htb (by omega);have hw2:TL U2 v5 ts:=hw.grew0 (q2.trans w2);have hlp:=cmp_loop (S:=U2) (ev E0 KP (d+40)) qa3 (R6_52 (ev E0 KP (d+40)) qa3 (fun a s=>qb8 [2] a fun a=>qbu E0 (ev E0 KP (d+40)) Tryd.f6 a s) qav) (exB 2 (R6_52 (ev E0 KP (d+40)) qa3 (fun a s=>qb8 [2] a fun a=>qbu E0 (ev E0 KP (d+40)) Tryd.f6 a s) qav) qav) o2 hw2 hva hvb hA2 hB2 (by omega) ts.length 0 qa3 (by omega) (by unfold qa3; omega);refine⟨U2,?_,q2.trans w2⟩;rw[<- hE,nd_neq,b_s];simp only[g_f,nF,b_s,c_t,p_b,c_f,nd_neq];rw[hva.1,b_s];dsimp only;rw[hw2.len,b_s];dsimp only;rw[lA,ne3s,b_s];simp only[g_f,nF,b_s,c_t,p_b,c_f];rw[hvb.1,b_s];dsimp only;rw[hw2.len,b_s];dsimp only;rw[lB,ne3s,b_s,i_b,c_f];rw[show(V.int .i64 0)=.int .i64 ((0:Nat):Int)from rfl];exact hlp.trans ((exB_same ..).trans (R6_52_eq ..))
   . rw[hB]at hTb
     cases hTb
 . rw[hA]at hTa
   cases hTa
theorem quotes_run (d:Nat) (hd:92000<=d) {v0:V} {l:List Bs} (hTV:TV v0 l) (ho:S.on=false) (hH:Hd S):∃U,(ev E0 KP (d+41)).f 6 [v0] S=some (.ret (.bool true),U)/\Grew (fun _=>False) S U:=by
 obtain⟨U0,w1,w2⟩:=works_run knP (S:=S) (d+17) (by omega) ho hH;have o0:=w2.on.trans ho;obtain⟨U1,v5,a1,a2,a3⟩:=q_loop kbP lgP (d+35) qa3 (R6_7 (ev E0 KP (d+40)) qa3 (qbu E0 (ev E0 KP (d+40)) Tryd.f6) qav) (exB 0 (R6_7 (ev E0 KP (d+40)) qa3 (qbu E0 (ev E0 KP (d+40)) Tryd.f6) qav) qav) (N:=U0.next) hTV (min l.length 20) 0 qa3 U0 .nilslice (by omega) (by unfold qa3; omega) o0 TLo.nil (lR _);have o1:=a3.on.trans o0;have h1:=oneAll_len l (min l.length 20);have h2:=twoAll_len l (min l.length 20);have h3:=qks l (min l.length 20);obtain⟨U2,b1,b2⟩:=quotes_rest (S:=U1) d hd (qe9 l (min l.length 20)) o1 a2.tl (fun t ht=>(cuts_mem ht).2) (by omega) (by omega) (by omega);refine⟨U2,rv6 rfl ?_,w2.trans ((qd8 a3).trans b2)⟩;show F6 (ev E0 KP (d+40)) qa3 v0 S=_;rw[F6_eq,w1,callP_ret,u_not,b_s,i_b,Bool.not_true,c_f];exact a1.trans ((exB_same ..).trans b1)
end
def frz (W:World) (n:Nat):Rho:=⟨fun b=>if b=0 then some (0,0,n)else if b=1 then some (4,0,0)else none,fun k=>W.heap[k]?⟩
theorem relGF {e:Nat} (w:World) {cs:Array Value} {fr:Nat×Nat} (hw:w.heap[0]?=some (.cells cs e fr))
 (h0:cs[0]?=some (.iface 136 (.agg #[.pointer (some ⟨4,24,none⟩)]))):Rel E0 (base0 w) (frz w cs.size) (sG 136 24 e) w:=by
 have hR:=relG (E:=E0) globs w hw h0
 have hheap:∀b o,(sG 136 24 e).heap.get b=some o->b=0/\o=.cells e 1 1 true (sG.one2 (Ev.one (.iface 136 (.agg 1 (Ev.one (.ptr 1 24)))))):=fun b o h=>by
  have h':(Tr.set .nil (.cells e 1 1 true (sG.one2 (Ev.one (.iface 136 (.agg 1 (Ev.one (.ptr 1 24))))))) 0).get b=some o:=h;rw[Tr.get_set]at h';by_cases hb:b=0
  . rw[iP hb]at h'; exact⟨hb,(Option.some.inj h').symm⟩
  . rw[iN hb,Tr.get_nil]at h'; cases h'
 have hlt:0<w.heap.size:=by
  rcases Nat.lt_or_ge 0 w.heap.size with h|h
  . exact h
  . rw[Array.getElem?_eq_none h]at hw; cases hw
 have hcs:0<cs.size:=by
  rcases Nat.eq_zero_or_pos cs.size with h|h
  . rw[Array.getElem?_eq_none (by omega)]at h0; cases h0
  . exact h
 refine⟨⟨rfl,rfl,rfl,lR _,fun _ _=>rfl⟩,fun b hb=>?_,Nat.zero_le _,fun b o h=>?_,fun b b' o o' cb sh sz sh' sz' h h' m=>?_,fun g b h=>hR.glob g b h,fun k o h=>h,fun b o cb sh sz h m=>?_,fun k o h _=>trivial⟩
 . rcases hb with hb|hb
   . have hb':2<=b:=hb
     show(if b=0 then _ else if b=1 then _ else none)=none;rw[iN (by omega),iN (by omega)]
   . exact hb.elim
 . obtain⟨rfl,rfl⟩:=hheap b o h
   refine⟨0,0,cs.size,cs,fr,rfl,hw,rfl,by omega,rfl,fun _=>hlt,fun h=>(by cases h),fun i cv hi h1 h2=>?_,fun off v cv h1 h2 h3=>?_⟩
   . have:i=0:=by omega
     subst this;rw[h0]at hi;obtain rfl:=Option.some.inj hi;rfl
   . have:off=0:=by omega
     subst this;rw[Nat.zero_add,h0]at h3;obtain rfl:=Option.some.inj h3
     have hv:v=.iface 136 (.agg 1 (Ev.one (.ptr 1 24))):=by
      have:qbd (sG.one2 (Ev.one (.iface 136 (.agg 1 (Ev.one (.ptr 1 24)))))) 1 0=some (.iface 136 (.agg 1 (Ev.one (.ptr 1 24)))):=by kernel_rfl
      rw[this]at h1; exact(Option.some.inj h1).symm
     subst hv;refine .iface (.agg rfl (fun i cv hi=>?_) fun i v hi cv hc=>?_)
     . cases i with
       | zero=>simp at hi; subst hi; rfl
       | succ i=>simp at hi
     . cases i with
       | zero=>
        simp at hc; subst hc
        have:v=.ptr 1 24:=by
         have:(Ev.one (.ptr 1 24)).get 0=some (.ptr 1 24):=by kernel_rfl
         rw[this]at hi; exact(Option.some.inj hi).symm
        subst this;have:=VRel.ptr (ρ:=frz w cs.size) (b:=1) (off:=24) (cb:=4) (sh:=0) (sz:=0) rfl;rw[Nat.zero_add]at this;exact this
       | succ i=>simp at hc
 . obtain⟨_,rfl⟩:=hheap b o h
   cases m
 . obtain⟨_,rfl⟩:=hheap b o h
   cases m
theorem cell_row {W:World} {x:Value} (hw:W.cell? ⟨0,0,none⟩=some x):∃cs e fr,W.heap[0]?=some (.cells cs e fr)/\cs[0]?=some x:=by
 unfold World.cell? at hw;split at hw
 . rename_i cs e fr hheap
   exact⟨cs,e,fr,hheap,hw⟩
 . cases hw
theorem hd_sG (e:Nat):Hd (sG 136 24 e):=⟨lR 2,e,rfl⟩
theorem quotes_calls (W:World) {cs:Array Value} {e:Nat} {fr:Nat×Nat} (hw:W.heap[0]?=some (.cells cs e fr)) (h0:cs[0]?=some (.iface 136 (.agg #[.pointer (some ⟨4,24,none⟩)]))) {v:Value} {v0:V} {l:List Bs} (hv:VRel (frz W cs.size) v0 v) (hl:TV v0 l):Calls Tryd.prog 6 #[v] W fun e w'=>e=.returned (.bool true)/\Below W.heap.size W w':=by
 obtain⟨U,h,_⟩:=quotes_run (S:=sG 136 24 e) 92000 (lR _) hl rfl (hd_sG e);refine((ev_sim E0_ok okP _).call (base0 W) _ (sG 136 24 e) W 6 [v0] #[v] _ U (relGF W hw h0) (.cons hv .nil) h).mono fun ce w' hce=>?_;obtain⟨ρ',cv,rfl,_,hv,hR⟩:=hce;cases hv;exact⟨rfl,below_of_rel hR⟩
theorem qgn {α:Type} {f:Nat->Option α}:∀(n k:Nat) {r:List α},((List.range' k n).mapM f)=some r->r.length=n/\∀i,i<n->∃y,r[i]?=some y/\f (k+i)=some y
 | 0,k,r,h=>by
  simp at h; subst h;exact⟨rfl,fun i hi=>by omega⟩
 | n+1,k,r,h=>by
  rw[List.range'_succ,List.mapM_cons]at h;simp only[Option.bind_eq_bind,oI,Option.pure_def,oS]at h;obtain⟨y,hy,r',hr',rfl⟩:=h;obtain⟨h1,h2⟩:=qgn n (k+1) hr';refine⟨by simp[h1],fun i hi=>?_⟩;cases i with
  | zero=>exact⟨y,rfl,hy⟩
  | succ i=>
   obtain⟨z,hz1,hz2⟩:=h2 i (by omega);exact⟨z,by simpa using hz1,by rw[show k+(i+1)=k+1+i by omega]; exact hz2⟩
theorem cells?_at {W:World} {a:Addr} {n:Nat} {cs:List Value} (h:W.cells? 0 a n=some cs):cs.length=n/\∀i,i<n->∃y,cs[i]?=some y/\W.cell? (a.add i)=some y:=by
 unfold World.cells? at h;rw[iP (Nat.zero_le _),List.range_eq_range']at h;obtain⟨h1,h2⟩:=qgn n 0 h
 exact⟨h1,fun i hi=>by
  obtain⟨y,hy1,hy2⟩:=h2 i hi
  exact⟨y,hy1,by rw[Nat.zero_add]at hy2; exact hy2⟩⟩
theorem add_eq {a:Addr} (h:a.spot=none) (n:Nat):a.add n=⟨a.block,a.off+n,none⟩:=by
 unfold Addr.add;split
 . rename_i h0
   subst h0;cases a;simp only at h;subst h;rfl
 . rfl
theorem u40:Tryd.prog.underlying 40=some (.slice 9):=by kernel_rfl
theorem u9:Tryd.prog.underlying 9=some .string:=by kernel_rfl
theorem c9:Tryd.prog.cellsOf 9=1:=by kernel_rfl
theorem flat_at {β:Type} {z:Nat} (hz:0<z):∀(ls:List (List β)),(∀l∈ls,l.length=z)->∀(j:Nat) c,ls.flatten[j]?=some c->∃l,ls[j/z]?=some l/\l[j%z]?=some c
 | [],_,j,c,h=>by simp at h
 | l::ls,hl,j,c,h=>by
  rw[List.flatten_cons]at h;have h0:=hl l (List.mem_cons_self ..);by_cases hj:j<z
  . rw[List.getElem?_append_left (by omega)]at h
    exact⟨l,by rw[Nat.div_eq_of_lt hj]; rfl,by rw[Nat.mod_eq_of_lt hj]; exact h⟩
  . rw[List.getElem?_append_right (by omega),h0]at h
    obtain⟨l',h1,h2⟩:=flat_at hz ls (fun x hx=>hl x (mO _ hx)) (j-z) c h;refine⟨l',?_,?_⟩
    . rw[show j=(j-z)+z by omega,Nat.add_div_right _ hz]; exact h1
    . rw[show j=(j-z)+z by omega,Nat.add_mod_right]; exact h2
theorem pick_any {α:Type} {P:Nat->α->Prop}:∀(n:Nat),(∀i,i<n->∃b,P i b)->∃l:List α,l.length=n/\∀i b,l[i]?=some b->P i b
 | 0,_=>⟨[],rfl,fun i b h=>by simp at h⟩
 | n+1,h=>by
  obtain⟨l,h1,h2⟩:=pick_any n fun i hi=>h i (by omega);obtain⟨b,hb⟩:=h n (by omega);refine⟨l++[b],by simp[h1],fun i c hc=>?_⟩;by_cases hi:i<n
  . rw[List.getElem?_append_left (by omega)]at hc
    exact h2 i c hc
  . have hi2:i=n:=by
     have:=(List.getElem?_eq_some_iff.1 hc).1;simp[h1]at this;omega
    subst hi2;rw[List.getElem?_append_right (by omega)]at hc;simp[h1]at hc;subst hc;exact hb
theorem vrels_map {ρ:Rho} {α:Type} (f:α->V) (g:α->Value):∀l:List α,(∀a∈l,VRel ρ (f a) (g a))->VRels ρ (l.map f) (l.map g)
 | [],_=>.nil
 | a::l,h=>.cons (h a (List.mem_cons_self ..)) (vrels_map f g l fun b hb=>h b (mO _ hb))
section
variable {H:Type} {enc:TypeId×Value->H} {W:World} {n0:Nat}
theorem list_of_trod {α:Type} {t e z:Nat} {F:α->V} {Q:α->Prop} (ht:Tryd.prog.underlying t=some (.slice e)) (hz:Tryd.prog.cellsOf e=z) (hz0:0<z)
 (el:∀fuel cs (x:DataW H×List MemPlace),DataW.trod enc Tryd.prog W 0 (fun _=>true) true fuel e cs=some x->∃(a:α) (cv:Value),VRel (frz W n0) (F a) cv/\qaa (F a)=false/\cv.cells.toList=cs/\Q a)
 {fuel:Nat} {cs:List Value} {x:DataW H×List MemPlace} (h:DataW.trod enc Tryd.prog W 0 (fun _=>true) true fuel t cs=some x) :
 ∃(cv:Value) (v:V) (l:List α),cs=[cv]/\VRel (frz W n0) v cv/\((l=[]/\(v=.nilslice\/v=.eslice))\/v=.list z (l.map F))/\(∀a∈l,Q a)/\∃ad len cap,cv=.slice ad len cap:=by
 rcases DataW.trod_slice ht h with⟨hv,_⟩|⟨a,len,cap,elems,rest,m,hm,hv,_,_,hcap,hmax,hel,hat,_⟩
 . exact⟨_,.nilslice,[],hv,.nilslice,.inl ⟨rfl,.inl rfl⟩,fun _ h=>by simp at h,_,_,_,rfl⟩
 . by_cases h0:len=0
   . subst h0
     exact⟨_,.eslice,[],hv,.eslice a cap,.inl ⟨rfl,.inr rfl⟩,fun _ h=>by simp at h,_,_,_,rfl⟩
   . have hAt:∀i,i<len->∃p:α×Value,VRel (frz W n0) (F p.1) p.2/\qaa (F p.1)=false/\Q p.1/\p.2.cells.toList.length=z/\∀k,k<z->∃y,p.2.cells.toList[k]?=some y/\W.cell? ((a.add (i*z)).add k)=some y:=fun i hi=>by
      have:=hat i hi;rw[hz,List.getElem?_eq_getElem (by omega),oI]at this;obtain⟨cells,h1,h2⟩:=this;obtain⟨b,cv,b1,b2,b3,b4⟩:=el _ _ _ h2;obtain⟨c1,c2⟩:=cells?_at h1;exact⟨(b,cv),b1,b2,b4,by rw[b3]; exact c1,by rw[b3]; exact c2⟩
     obtain⟨p0,_,_,_,_,q0⟩:=hAt 0 (by omega);obtain⟨y0,_,hb0⟩:=q0 0 hz0
     have hspot:a.spot=none/\∃bg ty fr,W.heap[a.block]?=some (.cells bg ty fr):=by
      rw[Nat.zero_mul,show(a.add 0).add 0=a from rfl]at hb0;unfold World.cell? at hb0;split at hb0
      . rename_i bg ty fr hh
        split at hb0
        . cases hb0
        . rename_i hsp
          exact⟨by simpa using hsp,bg,ty,fr,hh⟩
      . cases hb0
     obtain⟨hsp,bg,ty,fr,hheap⟩:=hspot;obtain⟨l,l1,l2⟩:=pick_any len hAt;have hin:∀p∈l,∃i,l[i]?=some p:=fun p hp=>List.mem_iff_getElem?.1 hp;refine⟨_,.list z ((l.map (·.1)).map F),l.map (·.1),hv,?_,.inr rfl,fun b hb=>?_,_,_,_,rfl⟩
     . rw[List.map_map]
       refine .list (vrels_map _ (·.2) l fun p hp=>?_) (fun v hv=>?_) (by rw[lM]; exact l1) hcap fun _=>⟨fun cv hcv=>?_,hsp,bg,ty,fr,hheap,fun j c hj=>?_⟩
       . obtain⟨i,hi⟩:=hin p hp
         exact(l2 i p hi).1
       . rw[List.mem_map]at hv
         obtain⟨p,hp,rfl⟩:=hv;obtain⟨i,hi⟩:=hin p hp;exact(l2 i p hi).2.1
       . rw[List.mem_map]at hcv
         obtain⟨p,hp,rfl⟩:=hcv;obtain⟨i,hi⟩:=hin p hp;have:=(l2 i p hi).2.2.2.1
         rwa [Array.length_toList]at this
       . rw[List.flatMap_def,List.map_map]at hj
         obtain⟨cl,h1,h2⟩:=flat_at hz0 _ (fun cl hcl=>by
          rw[List.mem_map]at hcl;obtain⟨p,hp,rfl⟩:=hcl;obtain⟨i,hi⟩:=hin p hp
          exact(l2 i p hi).2.2.2.1) j c hj
         rw[List.getElem?_map,Option.map_eq_some_iff]at h1;obtain⟨p,hp,rfl⟩:=h1;obtain⟨y,y1,y2⟩:=(l2 _ p hp).2.2.2.2 (j%z) (Nat.mod_lt _ hz0)
         have hc:c=y:=by
          have:=h2.symm.trans y1;simpa using this
         subst hc;rw[add_eq hsp,add_eq rfl]at y2;unfold World.cell? at y2;simp only at y2;rw[hheap]at y2
         have he:a.off+j/z*z+j%z=a.off+j:=by
          have:=Nat.div_add_mod j z;rw[Nat.mul_comm]at this;omega
         rw[he]at y2;exact y2
     . rw[List.mem_map]at hb
       obtain⟨p,hp,rfl⟩:=hb;obtain⟨i,hi⟩:=hin p hp;exact(l2 i p hi).2.2.1
theorem texts_of_trod {fuel:Nat} {cs:List Value} {x:DataW H×List MemPlace} (h:DataW.trod enc Tryd.prog W 0 (fun _=>true) true fuel 40 cs=some x) :
 ∃(cv:Value) (v:V) (l:List Bs),cs=[cv]/\VRel (frz W n0) v cv/\TV v l/\∃ad len cap,cv=.slice ad len cap:=by
 obtain⟨cv,v,l,h1,h2,h3,_,h4⟩:=list_of_trod (F:=sv) (Q:=fun _=>True) u40 c9 (by omega) (fun fuel cs x hx=>by
  obtain⟨s,rfl,_,_⟩:=DataW.trod_string u9 hx
  exact⟨s.data.toList,.string s,.str s,rfl,rfl,trivial⟩) h
 exact⟨cv,v,l,h1,h2,h3,h4⟩
end
end Go.Proofs.YtafbipadnnmccaaDoor.W
