/-
  WHAT THE FUNCTIONS COME TO: each is read by the evaluator,printed,and told as a function of data,part 12 of 13 (no condition).
-/
import Derived.Test.YtpgegoeghaplkaaGreatDoorW11
import Derived.Test.YtpgegoeghaplkaaGreatDoorProg
import Derived.KernelRfl
namespace Go.Proofs.YtpgegoeghaplkaaGreatDoor.W
open Go.Proofs.YtpgegoeghaplkaaGreatDoor.Ev
def Cl (s:Bs):Prop:=∀c∈s,c≠10/\c≠32
theorem Cl.cons {c:UInt8} {s:Bs} (h:Cl (c::s)):(c≠10/\c≠32)/\Cl s:=⟨h c (List.mem_cons_self ..),fun x hx=>h x (mO _ hx)⟩
theorem cutB_line:∀(l r:Bs),(∀c∈l,c≠10)->qj8 (l++10::r)=(l,some r)
 | [],r,_=>by rw[List.nil_append,qj8,iP rfl]
 | c::l,r,h=>by
  have hc:=h c (List.mem_cons_self ..);rw[List.cons_append,qj8,iN hc,cutB_line l r fun x hx=>h x (mO _ hx)]
theorem qk2:∀(w:Bs),Cl w->qgx w=[w]
 | [],_=>rfl
 | c::w,h=>by
  rw[qgx,iN h.cons.1.2,qk2 w h.cons.2]
theorem qhm:∀(w r:Bs),Cl w->qgx (w++32::r)=w::qgx r
 | [],r,_=>by rw[List.nil_append,qgx,iP rfl]
 | c::w,r,h=>by
  rw[List.cons_append,qgx,iN h.cons.1.2,qhm w r h.cons.2]
theorem hexC_all:∀n,n<16->isX (qlf n)=true/\ixH (qlf n)=n/\qlf n≠10/\qlf n≠32:=by decide
def digs (c:UInt8):Bs:=[qlf (c.toNat/16),qlf (c.toNat%16)]
theorem pairs_digs:∀v:Bs,qgp (v.flatMap digs)=v/\(v.flatMap digs).all isX=true/\(v.flatMap digs).length=2*v.length/\Cl (v.flatMap digs)
 | []=>⟨rfl,rfl,rfl,fun c hc=>by cases hc⟩
 | c::v=>by
  obtain⟨h1,h2,h3,h4⟩:=pairs_digs v;have hc:=c.toNat_lt;have ha:=hexC_all (c.toNat/16) (by omega);have hb:=hexC_all (c.toNat%16) (by omega);have e:(c::v).flatMap digs=qlf (c.toNat/16)::qlf (c.toNat%16)::v.flatMap digs:=rfl;rw[e];refine⟨?_,?_,?_,?_⟩
  . rw[qgp,h1,ha.2.1,hb.2.1,show c.toNat/16*16+c.toNat%16=c.toNat by omega,UInt8.ofNat_toNat]
  . rw[List.all_cons,List.all_cons,ha.1,hb.1,h2]; rfl
  . simp only[List.length_cons]; omega
  . intro x hx
    rcases List.mem_cons.1 hx with rfl|hx
    . exact ha.2.2
    . rcases List.mem_cons.1 hx with rfl|hx
      . exact hb.2.2
      . exact h4 x hx
theorem val_hex (v:Bs):valD (qn7 v)=some v/\Cl (qn7 v):=by
 unfold qn7;by_cases h0:v=[]
 . subst h0
   exact⟨rfl,fun c hc=>by rw[iP rfl,List.mem_singleton]at hc; subst hc; exact⟨by decide,by decide⟩⟩
 . obtain⟨h1,h2,h3,h4⟩:=pairs_digs v
   have hp:0<v.length:=List.length_pos_iff.2 h0;rw[iN h0,show(fun c:UInt8=>[qlf (c.toNat/16),qlf (c.toNat%16)])=digs from rfl];refine⟨?_,h4⟩;unfold valD;rw[iN (fun e=>by rw[e]at h3; simp at h3; omega),iP ⟨fun e=>by rw[e]at h3; simp at h3; omega,by omega,h2⟩,h1]
theorem rise_pre:∀(l m:List Bs),qd9 (l++m)=true->qd9 l=true
 | [],_,_=>rfl
 | [a],_,_=>rfl
 | a::b::l,m,h=>by
  rw[List.cons_append,List.cons_append,qd9,bA]at h;rw[qd9,h.1,rise_pre (b::l) m h.2]; rfl
theorem rise_last:∀(l:List Bs) (x:Bs) (m:List Bs),qd9 (l++x::m)=true->∀y,l.getLast?=some y->ltB y x=true
 | [],_,_,_,y,hy=>by cases hy
 | [a],x,m,h,y,hy=>by
  rw[List.cons_append,List.nil_append,qd9,bA]at h;cases hy; exact h.1
 | a::b::l,x,m,h,y,hy=>by
  rw[List.cons_append,List.cons_append,qd9,bA]at h;exact rise_last (b::l) x m h.2 y (by rw[List.getLast?_cons_cons]at hy; exact hy)
section
variable {chk isPath variable_:Bs->Bool}
theorem qly {f t:Nat} (ht:¬t=4) (d:DD) (l r:Bs) (h:∀c∈l,c≠10):prsL chk isPath variable_ (f+1) t d (l++10::r)=(sayD chk isPath variable_ t d (qgx l)).bind fun p=>prsL chk isPath variable_ f p.1 p.2 r:=by
 rw[prsL,iN ht,cutB_line l r h];rfl
theorem qlc {w:Bs} (h:Cl w):∀c∈w,c≠10:=fun c hc=>(h c hc).1
theorem ten_app {a b:Bs} (ha:∀c∈a,c≠10) (hb:∀c∈b,c≠10):∀c∈a++32::b,c≠10:=fun c hc=>by
 rcases List.mem_append.1 hc with h|h
 . exact ha c h
 . rcases List.mem_cons.1 h with rfl|h
   . decide
   . exact hb c h
theorem clW:Cl wDrv/\Cl wIn/\Cl wEnv/\Cl wRun:=by
 unfold Cl wDrv wIn wEnv wRun
 decide
theorem prs_ins (hP:∀s,isPath s=true->Cl s):∀(l:List Bs) (t f:Nat) (d:DD) (rest:Bs),(t=1\/t=2)->l.all isPath=true->qd9 (d.ins++l)=true->d.ins.length+l.length<=8->
 ∃t',(t'=1\/t'=2)/\prsL chk isPath variable_ (f+l.length) t d (l.flatMap inL++rest)=prsL chk isPath variable_ f t' {d with ins:=d.ins++l} rest
 | [],t,f,d,rest,ht,_,_,_=>⟨t,ht,by rw[List.append_nil]; rfl⟩
 | p::l,t,f,d,rest,ht,ha,hr,hl=>by
  rw[List.all_cons,bA]at ha;have hc:=hP p ha.1;rw[List.length_cons]at hl;obtain⟨t',h1,h2⟩:=prs_ins hP l 2 f {d with ins:=d.ins++[p]} rest (.inr rfl) ha.2 (by simpa using hr) (by simp only[lAq,List.length_singleton]; omega);refine⟨t',h1,?_⟩;have hr1:qd9 (d.ins++[p])=true:=rise_pre (d.ins++[p]) l (by simpa using hr);have hw:qgx (wIn++32::p)=[wIn,p]:=by rw[qhm _ _ clW.2.1,qk2 p hc]
  have e:(p::l).flatMap inL++rest=(wIn++32::p)++10::(l.flatMap inL++rest):=by
   rw[List.flatMap_cons];unfold inL;simp
  rw[e,List.length_cons,<- Nat.add_assoc,qly (by omega) d _ _ (ten_app (qlc clW.2.1) (qlc hc)),hw]
  have hs:sayD chk isPath variable_ t d [wIn,p]=some (2,{d with ins:=d.ins++[p]}):=by
   rw[sayD,iN (show ¬wIn=wDrv by decide),iP rfl];unfold sayIn;dsimp only;rw[iP ⟨ht,ha.1,hr1,by omega⟩]
  rw[hs];show prsL chk isPath variable_ (f+l.length) 2 {d with ins:=d.ins++[p]} (l.flatMap inL++rest)=_;rw[h2];simp
theorem prs_env (hV:∀s,variable_ s=true->Cl s):∀(l:List (Bs×Bs)) (t f:Nat) (d:DD) (rest:Bs),(t=1\/t=2\/t=3)->l.all (fun v=>variable_ v.1&&decide (v.2.length<=200))=true->qd9 ((d.env++l).map Prod.fst)=true->d.env.length+l.length<=16->
 ∃t',(t'=1\/t'=2\/t'=3)/\prsL chk isPath variable_ (f+l.length) t d (l.flatMap envL++rest)=prsL chk isPath variable_ f t' {d with env:=d.env++l} rest
 | [],t,f,d,rest,ht,_,_,_=>⟨t,ht,by rw[List.append_nil]; rfl⟩
 | p::l,t,f,d,rest,ht,ha,hr,hl=>by
  rw[List.all_cons,bA,bA,decide_eq_true_eq]at ha;have hc:=hV p.1 ha.1.1;obtain⟨v1,v2⟩:=val_hex p.2;rw[List.length_cons]at hl;obtain⟨t',h1,h2⟩:=prs_env hV l 3 f {d with env:=d.env++[p]} rest (.inr (.inr rfl)) ha.2 (by simpa using hr) (by simp only[lAq,List.length_singleton]; omega);refine⟨t',h1,?_⟩
  have hr1:∀y,d.env.getLast?=some y->ltB y.1 p.1=true:=fun y hy=>by
   rw[List.map_append,List.map_cons]at hr;exact rise_last _ _ _ hr y.1 (by rw[List.getLast?_map,hy]; rfl)
  have hw:qgx ((wEnv++32::p.1)++32::qn7 p.2)=[wEnv,p.1,qn7 p.2]:=by
   rw[List.append_assoc,List.cons_append,qhm _ _ clW.2.2.1,qhm _ _ hc,qk2 _ v2]
  have e:(p::l).flatMap envL++rest=((wEnv++32::p.1)++32::qn7 p.2)++10::(l.flatMap envL++rest):=by
   rw[List.flatMap_cons];unfold envL;simp
  rw[e,List.length_cons,<- Nat.add_assoc,qly (by omega) d _ _ (ten_app (ten_app (qlc clW.2.2.1) (qlc hc)) (qlc v2)),hw]
  have hs:sayD chk isPath variable_ t d [wEnv,p.1,qn7 p.2]=some (3,{d with env:=d.env++[p]}):=by
   rw[sayD,iN (show ¬wEnv=wDrv by decide),iN (show ¬wEnv=wIn by decide),iP rfl];unfold ql9;dsimp only;rw[iP ⟨ht,ha.1.1,hr1⟩,v1,oB,iP ⟨ha.1.2,by omega⟩]
  rw[hs];show prsL chk isPath variable_ (f+l.length) 3 {d with env:=d.env++[p]} (l.flatMap envL++rest)=_;rw[h2];simp
theorem flat_len {α:Type} (f:α->Bs) (h:∀a,1<=(f a).length):∀l:List α,l.length<=(l.flatMap f).length
 | []=>lR _
 | a::l=>by
  have:=h a;have:=flat_len f h l;rw[List.flatMap_cons,lAq,List.length_cons]; omega
theorem prs_prt (hC:∀s,chk s=true->Cl s) (hP:∀s,isPath s=true->Cl s) (hV:∀s,variable_ s=true->Cl s) (d:DD) (h:qft chk isPath variable_ d=true):prsD chk isPath variable_ (qge d)=some d:=by
 unfold qft at h;simp only[bA,decide_eq_true_eq]at h;obtain⟨⟨⟨⟨⟨hn,hl⟩,hi⟩,hr⟩,hv⟩,hs⟩:=h;have hc:=hC d.nm hn
 have e:qge d=(wDrv++32::d.nm)++10::(d.ins.flatMap inL++(d.env.flatMap envL++(wRun++10::d.scr))):=by
  unfold qge preD;rw[iN (by decide),iP rfl];simp
 have hlen:d.ins.length+d.env.length+2<=(qge d).length:=by
  have h1:=flat_len inL (fun a=>by unfold inL; simp; omega) d.ins;have h2:=flat_len envL (fun a=>by unfold envL; simp; omega) d.env;rw[e];simp only[lAq,List.length_cons];omega
 unfold prsD;obtain⟨f,hf⟩:∃f,(qge d).length+2=(((f+1)+1)+d.env.length+d.ins.length)+1:=⟨(qge d).length-1-d.env.length-d.ins.length,by omega⟩
 have hw:qgx (wDrv++32::d.nm)=[wDrv,d.nm]:=by rw[qhm _ _ clW.1,qk2 _ hc]
 rw[hf,e,qly (by omega) _ _ _ (ten_app (qlc clW.1) (qlc hc)),hw]
 have h1:sayD chk isPath variable_ 0 ⟨[],[],[],[]⟩ [wDrv,d.nm]=some (1,⟨d.nm,[],[],[]⟩):=by
  rw[sayD,iP rfl];unfold ql8;dsimp only;rw[iP ⟨rfl,hn⟩]
 rw[h1];show prsL chk isPath variable_ (((f+1)+1)+d.env.length+d.ins.length) 1 ⟨d.nm,[],[],[]⟩ _=_;obtain⟨t1,a1,a2⟩:=prs_ins (chk:=chk) (variable_:=variable_) hP d.ins 1 (((f+1)+1)+d.env.length) ⟨d.nm,[],[],[]⟩ (d.env.flatMap envL++(wRun++10::d.scr)) (.inl rfl) hi (by simpa using hr.1) (by simpa using hl.1);rw[a2];obtain⟨t2,b1,b2⟩:=prs_env (chk:=chk) (isPath:=isPath) hV d.env t1 ((f+1)+1) {(⟨d.nm,[],[],[]⟩:DD)with ins:=[]++d.ins} (wRun++10::d.scr) (by omega) (by simpa using hv) (by simpa using hr.2) (by simpa using hl.2);rw[b2,qly (by omega) _ _ _ (qlc clW.2.2.2),qk2 _ clW.2.2.2]
 have h4:∀d',sayD chk isPath variable_ t2 d' [wRun]=some (4,d'):=fun d'=>by
  rw[sayD,iN (show ¬wRun=wDrv by decide),iN (show ¬wRun=wIn by decide),iN (show ¬wRun=wEnv by decide),iP rfl];unfold sayRun;dsimp only;rw[iP b1]
 rw[h4];show prsL chk isPath variable_ (f+1) 4 _ d.scr=_;rw[prsL,iP rfl,iP hs];simp
end
open Go.RowKit
theorem all256c {p:UInt8->Bool} (h:(List.range 256).all (fun n=>p (UInt8.ofNat n))=true) (c:UInt8):p c=true:=by
 have:=List.all_eq_true.1 h c.toNat (List.mem_range.2 c.toNat_lt)
 rwa [UInt8.ofNat_toNat]at this
def clean (c:UInt8):Bool:=c != 10&&c != 32
theorem clean_ne {c:UInt8} (h:clean c=true):c≠10/\c≠32:=by
 unfold clean at h;simpa using h
theorem lett_clean (c:UInt8) (h:qlh c=true):c≠10/\c≠32:=by
 have:(!qlh c||clean c)=true:=all256c (p:=fun c=>!qlh c||clean c) (by decide +kernel) c;rw[h]at this;exact clean_ne this
theorem fst_clean (c:UInt8) (b:Bool) (h:(fstB c||(!b&&inB 48 57 c))=true):c≠10/\c≠32:=by
 have:(!(fstB c||inB 48 57 c)||clean c)=true:=all256c (p:=fun c=>!(fstB c||inB 48 57 c)||clean c) (by decide +kernel) c
 have h2:(fstB c||inB 48 57 c)=true:=by
  cases hf:fstB c with
  | true=>rfl
  | false=>
   rw[hf,Bool.false_or,bA]at h;rw[Bool.false_or]; exact h.2
 rw[h2]at this;exact clean_ne this
theorem chk_cl (s:Bs) (h:qcr s=true):Cl s:=by
 unfold qcr chkN at h;by_cases h1:20<s.length
 . rw[iP h1]at h; cases h
 . rw[iN h1]at h
   by_cases h2:s.all qlh=true
   . exact fun c hc=>lett_clean c (List.all_eq_true.1 h2 c hc)
   . rw[iN h2]at h; cases h
theorem ltr_clean (c:UInt8) (h:ltrs.contains c=true):c≠10/\c≠32:=by
 have:(!ltrs.contains c||clean c)=true:=all256c (p:=fun c=>!ltrs.contains c||clean c) (by decide +kernel) c;rw[h]at this;exact clean_ne this
theorem path_split {s:Bs} (h:qai s=true):s=s.take 32++45::s.drop 33/\isH (s.take 32)=true/\qcr (s.drop 33)=true:=by
 unfold qai at h;simp only[bA,decide_eq_true_eq]at h;obtain⟨⟨h1,h2⟩,h3,h4⟩:=h;refine⟨?_,h3,h4⟩
 have e:s[32]=45:=by
  rw[List.getElem?_eq_getElem h1]at h2;simpa using h2
 have:=List.take_append_drop 32 s;rw[List.drop_eq_getElem_cons h1,e]at this;exact this.symm
theorem path_cl (s:Bs) (h:qai s=true):Cl s:=by
 obtain⟨h1,h2,h3⟩:=path_split h;intro c hc;rw[h1]at hc;rcases List.mem_append.1 hc with hc|hc
 . unfold isH at h2
   rw[bA,List.all_eq_true]at h2;exact ltr_clean c (h2.2 c hc)
 . rcases List.mem_cons.1 hc with rfl|hc
   . exact⟨by decide,by decide⟩
   . exact chk_cl _ h3 c hc
theorem varL_cl:∀(s:Bs) (b:Bool),varL b s=true->Cl s
 | [],_,_=>fun c hc=>by cases hc
 | c::s,b,h=>by
  rw[varL,bA]at h;intro x hx;rcases List.mem_cons.1 hx with rfl|hx
  . exact fst_clean _ b h.1
  . exact varL_cl s false h.2 x hx
theorem var_cl (s:Bs) (h:qdt s=true):Cl s:=by
 unfold qdt at h;rw[bA]at h;exact varL_cl s true h.1
theorem prs_prt' (d:DD) (h:qft qcr qai qdt d=true):prsD qcr qai qdt (qge d)=some d:=prs_prt chk_cl path_cl var_cl d h
theorem flat_le {α:Type} (f:α->Bs) (k:Nat):∀l:List α,(∀a∈l,(f a).length<=k)->(l.flatMap f).length<=k*l.length
 | [],_=>Nat.zero_le _
 | a::l,h=>by
  have h1:=h a (List.mem_cons_self ..);have h2:=flat_le f k l fun x hx=>h x (mO _ hx);rw[List.flatMap_cons,lAq,List.length_cons,Nat.mul_succ]; omega
theorem prt_len {d:DD} (h:qft qcr qai qdt d=true):(qge d).length<=15000:=by
 obtain⟨m1,m2,m3,m4,m5,m6⟩:=may_all h
 have h1:=flat_le inL 64 d.ins fun p hp=>by
  have:=m4 p hp;unfold inL wIn;simp; omega
 have h2:=flat_le envL 463 d.env fun p hp=>by
  have:=m5 p hp;have h3:=hex_len p.2;unfold envL wEnv;simp; omega
 have h3:64*d.ins.length<=64*8:=Nat.mul_le_mul_left _ m1;have h4:463*d.env.length<=463*16:=Nat.mul_le_mul_left _ m2;unfold qge preD;rw[iN (by decide),iP rfl];simp only[lAq,List.length_cons,List.length_nil];unfold wDrv wRun;simp only[List.length_cons,List.length_nil];omega
def qen (d:DD):Bs:=qjk ([100,114,118,58]++qge d)++[45]++d.nm
section
variable {S T U:St} {N:Nat} {d:DD} {vI vE:V} {Tt:Tr V}
theorem rq8' {n:Nat} {args:List V} {s:St} {r:En×St} (e:qay E0 (ev E0 KD n) qa1 Tryz.f8 B8 args s=some r):(ev E0 KD (n+1)).f 8 args s=some r:=qa5 (c:=C8) (d:=B8) (by kernel_rfl) (by kernel_rfl) (qa2 C8 _ (by kernel_rfl)) rfl e
theorem hash_k (m:Nat) (s:Bs) (hs:s.length<80000) (S:St):(ev E0 KD (m+1)).f 14 [sv s] S=some (.ret (sv (qjk s)),S):=by
 rw[qc4 (show KD 14=some kfHash from rfl)];exact kfHash_run s hs S
theorem split_k (m:Nat) (s:Bs) (hs:s.length<1000000) (S:St):(ev E0 KD (m+1)).f 12 [sv s] S=some (.ret (splitV s),S):=by
 rw[qc4 (show KD 12=some kfSplit from rfl)];exact kfSplit_run s hs S
theorem npath_k (m:Nat) (a b:Bs) (ha:a.length<1000000) (hb:b.length<1000000) (S:St):(ev E0 KD (m+1)).f 23 [sv a,sv b] S=some (.ret (npathV a b),S):=by
 rw[qc4 (show KD 23=some kfNPath from rfl)];exact kfNPath_run a b ha hb S
theorem works_k (m:Nat) (S:St):(ev E0 KD (m+1)).f 10 [] S=some (.ret (.bool true),S):=by
 rw[qc4 (show KD 10=some kfTrue from rfl)];exact kfTrue_run S
theorem npath_of {d:DD} (hm:qft qcr qai qdt d=true):npathV (qjk ([100,114,118,58]++qge d)) d.nm=.tuple [sv (qen d),.int .i64 0]:=by
 unfold qft at hm;simp only[bA]at hm;have hn:=hm.1.1.1.1.1;have h0:chkN d.nm=0:=by unfold qcr at hn; simpa using hn
 unfold npathV npB npE qen;rw[hashB_is,hn,Bool.and_self,iP rfl,iP rfl,h0]
theorem path_run (h:Dx S N Tt d vI vE) (m:Nat):∃U,(ev E0 KD (m+13)).f 8 [.agg 4 Tt] S=some (.ret (.tuple (if qft qcr qai qdt d=true then [sv (qen d),.int .i64 0]else [sv [],.int .i64 2])),U)/\Grew (fun _=>False) S U:=by
 have ho:=h.on;obtain⟨a1,a2,a3⟩:=qbt ho 25 4 Tt;have on1:=a2.on.trans ho;have hF:=F8_eq (ev E0 KD (m+12)) qa1 (.agg 4 Tt) S;rw[show qle 25 (.agg 4 Tt) S=some (.ptr S.next 0,(nwP 25 4 Tt S).2)from rfl,oB]at hF;dsimp only at hF;generalize (nwP 25 4 Tt S).2=S1 at a1 a2 a3 on1 hF;rw[a1.ldA on1 qcx,oB]at hF;dsimp only at hF;have h1:Dx S1 N Tt d vI vE:=⟨on1,h.t,h.ins.grew a2,h.env.grew a2 fun _ _ h=>h,h.li,h.le,h.ln,h.lp,h.lv,h.lw,h.ls⟩
 obtain⟨S2,b1,b2⟩:=qnu h1 m;have on2:=b2.on.trans on1;rw[b1,callP_ret]at hF;cases hm:qft qcr qai qdt d with
 | false=>
  rw[hm,iN Bool.false_ne_true,ex0,oB,ex1,oB,show qa4 E0 .neq 27 false true (.int .i64 2) (.int .i64 0)=some (.bool true) by kernel_rfl,oB,ifK_bool,cT]at hF;exact⟨S2,rq8' hF,a2.trans b2⟩
 | true=>
  have hl:=prt_len hm;have hlh:=qfx ([100,114,118,58]++qge d);have ag2:AgAt S2 S.next 25 4 Tt:=a1.grew (by omega) (fun h=>h) b2
  rw[hm,iP rfl,ex0,oB,ex1,oB,show qa4 E0 .neq 27 false true (.int .i64 0) (.int .i64 0)=some (.bool false) by kernel_rfl,oB,ifK_bool,cF]at hF;rw[show(sv [100,114,118,58]:V)=sv ([100,114,118,58]:Bs)from rfl,addStr _ _ (by simp; omega),oB]at hF;simp only[ons,qbk]at hF;rw[hash_k (m+11) _ (by rw[lAq]; simp; omega),qbf,show faP 0 false 1 (.ptr S.next 0)=some (.ptr S.next 0)from rfl,oB]at hF;simp only[ons,qbk]at hF;rw[qbj on2 (ag2.ld1 on2 qcx (by decide) h.t.nm) [],oB]at hF;simp only[ons,qbk]at hF;rw[npath_k (m+11) _ _ (by omega) (by have:=h.ln; omega),qbf,npath_of hm,ex0,oB,ex1,oB]at hF;simp only[ons,qbk]at hF;rw[qbw (by rfl),qcd on2]at hF;exact⟨_,rq8' hF,a2.trans (b2.trans (qfe on2 on2))⟩
end
end Go.Proofs.YtpgegoeghaplkaaGreatDoor.W
namespace Go.Proofs.YtpgegoeghaplkaaGreatDoor.W
open Go.Proofs.YtpgegoeghaplkaaGreatDoor.Ev
set_option maxRecDepth 100000
noncomputable section
noncomputable def C5:Code:=Tryz.f5.body.getD .skip
noncomputable def B5:D:=(qao C5 [[],[],[],[1,2,3,4],[],[1,2,3],[],[],[0,1,2,3],[2],[],[1,2,3,5],[],[2,3],[],[],[0,2,3],[2],[]]).1
noncomputable def RL5:List Nat:=cellsOf Tryz.f5.results.toList
noncomputable def R5_20 (self:EV) (N:Nat) (nk:Ac->St->Rs) (ek:Nat->Ac->St->Rs) (a:Ac) (S:St):Rs:=qad [1,2,3] a fun a=>dr E0 self RL5 N (B5.r.r).r (mkK E0 self Tryz.f5 nk ek) a S
noncomputable def R5_21 (self:EV) (N:Nat) (nk:Ac->St->Rs) (ek:Nat->Ac->St->Rs) (a:Ac) (S:St):Rs:=qad [2,3] a fun a=>dr E0 self RL5 N (B5.r.r.r.l).r (mkK E0 self Tryz.f5 nk ek) a S
theorem R5_21_eq (self:EV) (N:Nat) (nk:Ac->St->Rs) (ek:Nat->Ac->St->Rs) ( v2 v3:V) (S:St):R5_21 self N nk ek (fr 98 [(2,v2),(3,v3)]) S =
(ldA 4 v3 S).bind fun p22=>
(stP 4 v2 p22.1 p22.2).bind fun p23=>
(ldrA 4 v2 p23.2).bind fun p24=>
some (.ret p24.1,p24.2):=by kernel_rfl
noncomputable def L5_26 (self:EV) (N:Nat) (nk:Ac->St->Rs) (ek:Nat->Ac->St->Rs) (n:Nat) ( v1 v2 v3 v5:V) (S:St):Rs:=qbr [1,2,3,5] (dr E0 self RL5 N (B5.r.r.r.l.l.r.l.l)) (mkK E0 self Tryz.f5 nk ek) n (fr 98 [(1,v1),(2,v2),(3,v3),(5,v5)]) S
theorem L5_26_eq (self:EV) (N:Nat) (nk:Ac->St->Rs) (ek:Nat->Ac->St->Rs) (n:Nat) ( v1 v2 v3 v5:V) (S:St):L5_26 self N nk ek (n+1) v1 v2 v3 v5 S =
(faP 2 false 1 v1).bind fun t28=>
(ld1 t28 S).bind fun p29=>
(lnS p29.1 p29.2).bind fun p30=>
(qa4 E0 .lss 3 false false v5 p30.1).bind fun t31=>
(qa3 true t31).bind fun g33=>(bif g33 then some v5 else some (.tuple [])).bind fun t33=>
(qa3 true t31).bind fun g34=>(bif g34 then qa4 E0 .lss 3 false true t33 (.int .i64 20)else some (.tuple [])).bind fun t34=>
(qbl t31 (some t34) (some (.bool false))).bind fun t35=>
ifK t35 (
(faP 2 false 1 v3).bind fun t36=>
(ld1 t36 (onS p30.2)).bind fun p37=>
(faP 2 false 1 v1).bind fun t38=>
(ld1 t38 (onS p37.2)).bind fun p39=>
(ixP 2 p39.1 v5).bind fun t41=>
(faP 0 false 1 t41).bind fun t42=>
(ld1 t42 (onS p39.2)).bind fun p43=>
(faP 2 false 1 v1).bind fun t44=>
(ld1 t44 (onS p43.2)).bind fun p45=>
(ixP 2 p45.1 v5).bind fun t47=>
(faP 0 false 1 t47).bind fun t48=>
(ld1 t48 (onS p45.2)).bind fun p49=>
(qc5 p49.1 (onS p49.2)).bind fun p50=>
(qiq minV p50.1 [(.int .i64 300)] (onS p50.2)).bind fun p51=>
(qb4 E0 9 p43.1 none (some p51.1) none (onS p51.2)).bind fun p52=>
(faP 2 false 1 v1).bind fun t53=>
(ld1 t53 (onS p52.2)).bind fun p54=>
(ixP 2 p54.1 v5).bind fun t56=>
(faP 1 false 1 t56).bind fun t57=>
(ld1 t57 (onS p54.2)).bind fun p58=>
(faP 2 false 1 v1).bind fun t59=>
(ld1 t59 (onS p58.2)).bind fun p60=>
(ixP 2 p60.1 v5).bind fun t62=>
(faP 1 false 1 t62).bind fun t63=>
(ld1 t63 (onS p60.2)).bind fun p64=>
(qc5 p64.1 (onS p64.2)).bind fun p65=>
(qiq minV p65.1 [(.int .i64 300)] (onS p65.2)).bind fun p66=>
(qb4 E0 9 p58.1 none (some p66.1) none (onS p66.2)).bind fun p67=>
(qd3 E0 41 [(0,p52.1),(1,p67.1)]).bind fun t68=>
(bsP 41 2 1 (Tr.ofListFrom .nil [(sv []),(sv [])] 0) [(0,t68)] (onS p67.2)).bind fun p69=>
(apP 41 2 32 p37.1 p69.1 (onS p69.2)).bind fun p70=>
(faP 2 false 1 v3).bind fun t71=>
(stP 1 t71 p70.1 (onS p70.2)).bind fun p72=>
qi7 [(1,[3,7,9,13,14,15,16,18,22,24,28,29,30,31,33]),(3,[9,13,14,15,18,22,24,28,29,30,31]),(7,[9,13,14,15,18,22,24,28,29,30,31]),(9,[18,22,24,28,29,30,31]),(13,[18,22,24,28,29,30,31]),(14,[18,22,24,28,29,30,31]),(15,[18,22,24,28,29,30,31]),(16,[18,22,24,28,29,30,31]),(18,[24,28,29,30]),(22,[24,28,29,30])] p30.2 [[],p37.2.log,[],p39.2.log,[],[],[],p43.2.log,[],p45.2.log,[],[],[],p49.2.log,p50.2.log,p51.2.log,p52.2.log,[],p54.2.log,[],[],[],p58.2.log,[],p60.2.log,[],[],[],p64.2.log,p65.2.log,p66.2.log,p67.2.log,[],p69.2.log,p70.2.log,[],p72.2.log] p72.2 fun S73=>
(qa4 E0 .add 3 false true v5 (.int .i64 1)).bind fun t75=>
L5_26 self N nk ek n v1 v2 v3 t75 S73) (
ek 2 (fr 98 [(2,v2),(3,v3)]) p30.2):=by kernel_rfl
theorem R5_20_eq (self:EV) (N:Nat) (nk:Ac->St->Rs) (ek:Nat->Ac->St->Rs) ( v1 v2 v3:V) (S:St):R5_20 self N nk ek (fr 98 [(1,v1),(2,v2),(3,v3)]) S =
L5_26 self N (R5_21 self N (fun a s=>qad [2] a fun a=>nk a s) ek) (exB 2 (R5_21 self N (fun a s=>qad [2] a fun a=>nk a s) ek) ek) N v1 v2 v3 (.int .i64 0) S:=by kernel_rfl
noncomputable def L5_78 (self:EV) (N:Nat) (nk:Ac->St->Rs) (ek:Nat->Ac->St->Rs) (n:Nat) ( v1 v2 v3 v4:V) (S:St):Rs:=qbr [1,2,3,4] (dr E0 self RL5 N (B5.r.r.l.r.l.l)) (mkK E0 self Tryz.f5 nk ek) n (fr 98 [(1,v1),(2,v2),(3,v3),(4,v4)]) S
theorem L5_78_eq (self:EV) (N:Nat) (nk:Ac->St->Rs) (ek:Nat->Ac->St->Rs) (n:Nat) ( v1 v2 v3 v4:V) (S:St):L5_78 self N nk ek (n+1) v1 v2 v3 v4 S =
(faP 1 false 1 v1).bind fun t80=>
(ld1 t80 S).bind fun p81=>
(lnS p81.1 p81.2).bind fun p82=>
(qa4 E0 .lss 3 false false v4 p82.1).bind fun t83=>
(qa3 true t83).bind fun g85=>(bif g85 then some v4 else some (.tuple [])).bind fun t85=>
(qa3 true t83).bind fun g86=>(bif g86 then qa4 E0 .lss 3 false true t85 (.int .i64 20)else some (.tuple [])).bind fun t86=>
(qbl t83 (some t86) (some (.bool false))).bind fun t87=>
ifK t87 (
(faP 1 false 1 v3).bind fun t88=>
(ld1 t88 (onS p82.2)).bind fun p89=>
(faP 1 false 1 v1).bind fun t90=>
(ld1 t90 (onS p89.2)).bind fun p91=>
(ixP 1 p91.1 v4).bind fun t93=>
(ld1 t93 (onS p91.2)).bind fun p94=>
(faP 1 false 1 v1).bind fun t95=>
(ld1 t95 (onS p94.2)).bind fun p96=>
(ixP 1 p96.1 v4).bind fun t98=>
(ld1 t98 (onS p96.2)).bind fun p99=>
(qc5 p99.1 (onS p99.2)).bind fun p100=>
(qiq minV p100.1 [(.int .i64 300)] (onS p100.2)).bind fun p101=>
(qb4 E0 9 p94.1 none (some p101.1) none (onS p101.2)).bind fun p102=>
(bsP 9 1 1 (Ev.one (sv [])) [(0,p102.1)] (onS p102.2)).bind fun p103=>
(apP 9 1 16 p89.1 p103.1 (onS p103.2)).bind fun p104=>
(faP 1 false 1 v3).bind fun t105=>
(stP 1 t105 p104.1 (onS p104.2)).bind fun p106=>
qi7 [(1,[3,6,8,11,12,13,14,15]),(3,[8,11,12,13]),(6,[8,11,12,13])] p82.2 [[],p89.2.log,[],p91.2.log,[],[],p94.2.log,[],p96.2.log,[],[],p99.2.log,p100.2.log,p101.2.log,p102.2.log,p103.2.log,p104.2.log,[],p106.2.log] p106.2 fun S107=>
(qa4 E0 .add 3 false true v4 (.int .i64 1)).bind fun t109=>
L5_78 self N nk ek n v1 v2 v3 t109 S107) (
ek 0 (fr 98 [(1,v1),(2,v2),(3,v3)]) p82.2):=by kernel_rfl
noncomputable def F5 (self:EV) (N:Nat) (x0:V) (S:St):Rs:=qay E0 self N Tryz.f5 B5 [x0] S
theorem F5_eq (self:EV) (N:Nat) (x0:V) (S:St):F5 self N x0 S =
(qle 25 x0 S).bind fun p0=>
(some (nwP 25 4 (Tr.ofListFrom .nil [(sv []),.nilslice,.nilslice,(sv [])] 0) p0.2)).bind fun p1=>
(faP 0 false 1 p0.1).bind fun t2=>
(ld1 t2 (onS p1.2)).bind fun p3=>
(faP 0 false 1 p0.1).bind fun t4=>
(ld1 t4 (onS p3.2)).bind fun p5=>
(qc5 p5.1 (onS p5.2)).bind fun p6=>
(qiq minV p6.1 [(.int .i64 300)] (onS p6.2)).bind fun p7=>
(qb4 E0 9 p3.1 none (some p7.1) none (onS p7.2)).bind fun p8=>
(faP 3 false 1 p0.1).bind fun t9=>
(ld1 t9 (onS p8.2)).bind fun p10=>
(faP 3 false 1 p0.1).bind fun t11=>
(ld1 t11 (onS p10.2)).bind fun p12=>
(qc5 p12.1 (onS p12.2)).bind fun p13=>
(qiq minV p13.1 [(.int .i64 5000)] (onS p13.2)).bind fun p14=>
(qb4 E0 9 p10.1 none (some p14.1) none (onS p14.2)).bind fun p15=>
(qd3 E0 25 [(0,p8.1),(3,p15.1)]).bind fun t16=>
(some (nwP 25 4 (Tr.ofListFrom .nil [(sv []),.nilslice,.nilslice,(sv [])] 0) (onS p15.2))).bind fun p17=>
(stP 4 p17.1 t16 (onS p17.2)).bind fun p18=>
qi7 [(1,[3,4,5,8,10,11,12,13,15]),(3,[8,10,11,12,13,15]),(4,[8,10,11,12,13,15]),(5,[8,10,11,12,13,15]),(6,[8,10,11,12,13,15]),(8,[10,11,12,15]),(10,[15]),(11,[15]),(12,[15]),(13,[15])] p1.2 [[],p3.2.log,[],p5.2.log,p6.2.log,p7.2.log,p8.2.log,[],p10.2.log,[],p12.2.log,p13.2.log,p14.2.log,p15.2.log,[],p17.2.log,p18.2.log] p18.2 fun S19=>
L5_78 self N (R5_20 self N (qb5 E0 self Tryz.f5) qak) (exB 0 (R5_20 self N (qb5 E0 self Tryz.f5) qak) qak) N p0.1 p1.1 p17.1 (.int .i64 0) S19:=by kernel_rfl
noncomputable def C13:Code:=Tryz.f13.body.getD .skip
noncomputable def B13:D:=(qao C13 [[],[],[],[],[],[2,3,5],[],[2,3],[],[],[],[],[0,2,3],[4],[],[2,3,6],[],[],[],[],[],[],[0],[4],[]]).1
noncomputable def RL13:List Nat:=cellsOf Tryz.f13.results.toList
noncomputable def R13_34 (self:EV) (N:Nat) (nk:Ac->St->Rs) (ek:Nat->Ac->St->Rs) (a:Ac) (S:St):Rs:=qad [2,3] a fun a=>dr E0 self RL13 N (B13.r.r).r (mkK E0 self Tryz.f13 nk ek) a S
noncomputable def R13_35 (self:EV) (N:Nat) (nk:Ac->St->Rs) (ek:Nat->Ac->St->Rs) (a:Ac) (S:St):Rs:=qad [] a fun a=>dr E0 self RL13 N (B13.r.r.r.l).r (mkK E0 self Tryz.f13 nk ek) a S
theorem R13_35_eq (self:EV) (N:Nat) (nk:Ac->St->Rs) (ek:Nat->Ac->St->Rs) (S:St):R13_35 self N nk ek (fr 73 []) S =
some (.ret (.bool true),S):=by kernel_rfl
noncomputable def L13_38 (self:EV) (N:Nat) (nk:Ac->St->Rs) (ek:Nat->Ac->St->Rs) (n:Nat) ( v2 v3 v6:V) (S:St):Rs:=qbr [2,3,6] (dr E0 self RL13 N (B13.r.r.r.l.l.r.l.l)) (mkK E0 self Tryz.f13 nk ek) n (fr 73 [(2,v2),(3,v3),(6,v6)]) S
theorem L13_38_eq (self:EV) (N:Nat) (nk:Ac->St->Rs) (ek:Nat->Ac->St->Rs) (n:Nat) ( v2 v3 v6:V) (S:St):L13_38 self N nk ek (n+1) v2 v3 v6 S =
(faP 2 false 1 v2).bind fun t40=>
(ld1 t40 S).bind fun p41=>
(lnS p41.1 p41.2).bind fun p42=>
(qa4 E0 .lss 3 false false v6 p42.1).bind fun t43=>
ifK t43 (
(faP 2 false 1 v2).bind fun t44=>
(ld1 t44 (onS p42.2)).bind fun p45=>
(ixP 2 p45.1 v6).bind fun t47=>
(ldA 2 t47 (onS p45.2)).bind fun p48=>
(faP 2 false 1 v3).bind fun t49=>
(ld1 t49 (onS p48.2)).bind fun p50=>
(ixP 2 p50.1 v6).bind fun t52=>
(ldA 2 t52 (onS p50.2)).bind fun p53=>
(qa4 E0 .neq 41 false false p48.1 p53.1).bind fun t54=>
qi7 [(1,[6,9]),(4,[6,9])] p42.2 [[],p45.2.log,[],[],p48.2.log,[],p50.2.log,[],[],p53.2.log,[]] (onS p53.2) fun S55=>
ifK t54 (
some (.ret (.bool false),S55)) (
(qa4 E0 .add 3 false true v6 (.int .i64 1)).bind fun t58=>
L13_38 self N nk ek n v2 v3 t58 S55)) (
ek 2 (fr 73 []) p42.2):=by kernel_rfl
theorem R13_34_eq (self:EV) (N:Nat) (nk:Ac->St->Rs) (ek:Nat->Ac->St->Rs) ( v2 v3:V) (S:St):R13_34 self N nk ek (fr 73 [(2,v2),(3,v3)]) S =
L13_38 self N (R13_35 self N (fun a s=>qad [4] a fun a=>nk a s) ek) (exB 2 (R13_35 self N (fun a s=>qad [4] a fun a=>nk a s) ek) ek) N v2 v3 (.int .i64 0) S:=by kernel_rfl
noncomputable def L13_61 (self:EV) (N:Nat) (nk:Ac->St->Rs) (ek:Nat->Ac->St->Rs) (n:Nat) ( v2 v3 v5:V) (S:St):Rs:=qbr [2,3,5] (dr E0 self RL13 N (B13.r.r.l.r.l.l)) (mkK E0 self Tryz.f13 nk ek) n (fr 73 [(2,v2),(3,v3),(5,v5)]) S
theorem L13_61_eq (self:EV) (N:Nat) (nk:Ac->St->Rs) (ek:Nat->Ac->St->Rs) (n:Nat) ( v2 v3 v5:V) (S:St):L13_61 self N nk ek (n+1) v2 v3 v5 S =
(faP 1 false 1 v2).bind fun t63=>
(ld1 t63 S).bind fun p64=>
(lnS p64.1 p64.2).bind fun p65=>
(qa4 E0 .lss 3 false false v5 p65.1).bind fun t66=>
ifK t66 (
(faP 1 false 1 v2).bind fun t67=>
(ld1 t67 (onS p65.2)).bind fun p68=>
(ixP 1 p68.1 v5).bind fun t70=>
(ld1 t70 (onS p68.2)).bind fun p71=>
(faP 1 false 1 v3).bind fun t72=>
(ld1 t72 (onS p71.2)).bind fun p73=>
(ixP 1 p73.1 v5).bind fun t75=>
(ld1 t75 (onS p73.2)).bind fun p76=>
(qa4 E0 .neq 9 false false p71.1 p76.1).bind fun t77=>
qi7 [(1,[6,9]),(4,[6,9])] p65.2 [[],p68.2.log,[],[],p71.2.log,[],p73.2.log,[],[],p76.2.log,[]] (onS p76.2) fun S78=>
ifK t77 (
some (.ret (.bool false),S78)) (
(qa4 E0 .add 3 false true v5 (.int .i64 1)).bind fun t81=>
L13_61 self N nk ek n v2 v3 t81 S78)) (
ek 0 (fr 73 [(2,v2),(3,v3)]) p65.2):=by kernel_rfl
noncomputable def F13 (self:EV) (N:Nat) (x0 x1:V) (S:St):Rs:=qay E0 self N Tryz.f13 B13 [x0,x1] S
theorem F13_eq (self:EV) (N:Nat) (x0 x1:V) (S:St):F13 self N x0 x1 S =
(qle 25 x0 S).bind fun p0=>
(qle 25 x1 p0.2).bind fun p1=>
(faP 0 false 1 p0.1).bind fun t3=>
(ld1 t3 p1.2).bind fun p4=>
(faP 0 false 1 p1.1).bind fun t5=>
(ld1 t5 p4.2).bind fun p6=>
(qa4 E0 .neq 9 false false p4.1 p6.1).bind fun t7=>
(qa3 false t7).bind fun g9=>(bif g9 then faP 3 false 1 p0.1 else some (.tuple [])).bind fun t9=>
(qa3 false t7).bind fun g10=>(bif g10 then ld1 t9 p6.2 else some (.tuple [],p6.2)).bind fun p10=>
(qa3 false t7).bind fun g11=>(bif g11 then faP 3 false 1 p1.1 else some (.tuple [])).bind fun t11=>
(qa3 false t7).bind fun g12=>(bif g12 then ld1 t11 p10.2 else some (.tuple [],p10.2)).bind fun p12=>
(qa3 false t7).bind fun g13=>(bif g13 then qa4 E0 .neq 9 false false p10.1 p12.1 else some (.tuple [])).bind fun t13=>
(qbl t7 (some (.bool true)) (some t13)).bind fun t14=>
(qa3 false t14).bind fun g16=>(bif g16 then faP 1 false 1 p0.1 else some (.tuple [])).bind fun t16=>
(qa3 false t14).bind fun g17=>(bif g17 then ld1 t16 p12.2 else some (.tuple [],p12.2)).bind fun p17=>
(qa3 false t14).bind fun g18=>(bif g18 then lnS p17.1 p17.2 else some (.tuple [],p17.2)).bind fun p18=>
(qa3 false t14).bind fun g19=>(bif g19 then faP 1 false 1 p1.1 else some (.tuple [])).bind fun t19=>
(qa3 false t14).bind fun g20=>(bif g20 then ld1 t19 p18.2 else some (.tuple [],p18.2)).bind fun p20=>
(qa3 false t14).bind fun g21=>(bif g21 then lnS p20.1 p20.2 else some (.tuple [],p20.2)).bind fun p21=>
(qa3 false t14).bind fun g22=>(bif g22 then qa4 E0 .neq 3 false false p18.1 p21.1 else some (.tuple [])).bind fun t22=>
(qbl t14 (some (.bool true)) (some t22)).bind fun t23=>
(qa3 false t23).bind fun g25=>(bif g25 then faP 2 false 1 p0.1 else some (.tuple [])).bind fun t25=>
(qa3 false t23).bind fun g26=>(bif g26 then ld1 t25 p21.2 else some (.tuple [],p21.2)).bind fun p26=>
(qa3 false t23).bind fun g27=>(bif g27 then lnS p26.1 p26.2 else some (.tuple [],p26.2)).bind fun p27=>
(qa3 false t23).bind fun g28=>(bif g28 then faP 2 false 1 p1.1 else some (.tuple [])).bind fun t28=>
(qa3 false t23).bind fun g29=>(bif g29 then ld1 t28 p27.2 else some (.tuple [],p27.2)).bind fun p29=>
(qa3 false t23).bind fun g30=>(bif g30 then lnS p29.1 p29.2 else some (.tuple [],p29.2)).bind fun p30=>
(qa3 false t23).bind fun g31=>(bif g31 then qa4 E0 .neq 3 false false p27.1 p30.1 else some (.tuple [])).bind fun t31=>
(qbl t23 (some (.bool true)) (some t31)).bind fun t32=>
ifK t32 (
some (.ret (.bool false),p30.2)) (
L13_61 self N (R13_34 self N (qb5 E0 self Tryz.f13) qak) (exB 0 (R13_34 self N (qb5 E0 self Tryz.f13) qak) qak) N p0.1 p1.1 (.int .i64 0) p30.2):=by kernel_rfl
end
end Go.Proofs.YtpgegoeghaplkaaGreatDoor.W
namespace Go.Proofs.YtpgegoeghaplkaaGreatDoor.W
open Go.Proofs.YtpgegoeghaplkaaGreatDoor.Ev Go.RowKit
def TV (v:V) (l:List Bs):Prop:=(l=[]/\(v=.nilslice\/v=.eslice))\/v=.list 1 (l.map sv)
noncomputable def pairV (p:Bs×Bs):V:=.agg 2 (qg4 p)
def EV (v:V) (l:List (Bs×Bs)):Prop:=(l=[]/\(v=.nilslice\/v=.eslice))\/v=.list 2 (l.map pairV)
section
variable {S T U W:St}
theorem TV.len {v:V} {l:List Bs} (h:TV v l):lnS v S=some (.int .i64 (l.length:Int),S):=by
 rcases h with⟨rfl,rfl|rfl⟩|rfl
 . rfl
 . rfl
 . show some (V.int .i64 (Int.ofNat (l.map sv).length),S)=_
   rw[lM]; rfl
theorem TV.ix {v:V} {l:List Bs} (h:TV v l) {i:Nat} {a:Bs} (ha:l[i]?=some a):ixP 1 v (.int .i64 (i:Int))=some (.cptr (sv a)):=by
 rcases h with⟨rfl,_⟩|rfl
 . simp at ha
 . show(bif Nat.beq 1 1&&Nat.blt 0 1 then((l.map sv)[i]?).bind fun v=>some (V.cptr v)else none)=_
   rw[List.getElem?_map,ha]; rfl
theorem EV.len {v:V} {l:List (Bs×Bs)} (h:EV v l):lnS v S=some (.int .i64 (l.length:Int),S):=by
 rcases h with⟨rfl,rfl|rfl⟩|rfl
 . rfl
 . rfl
 . show some (V.int .i64 (Int.ofNat (l.map pairV).length),S)=_
   rw[lM]; rfl
theorem EV.ix {v:V} {l:List (Bs×Bs)} (h:EV v l) {i:Nat} {a:Bs×Bs} (ha:l[i]?=some a):ixP 2 v (.int .i64 (i:Int))=some (.cptr (pairV a)):=by
 rcases h with⟨rfl,_⟩|rfl
 . simp at ha
 . show(bif Nat.beq 2 2&&Nat.blt 0 2 then((l.map pairV)[i]?).bind fun v=>some (V.cptr v)else none)=_
   rw[List.getElem?_map,ha]; rfl
theorem fa0 (p:Bs×Bs):faP 0 false 1 (.cptr (pairV p))=some (.cptr (sv p.1)):=by unfold pairV qg4; kernel_rfl
theorem fa1 (p:Bs×Bs):faP 1 false 1 (.cptr (pairV p))=some (.cptr (sv p.2)):=by unfold pairV qg4; kernel_rfl
theorem ldc (a:Bs) (S:St):ld1 (.cptr (sv a)) S=some (sv a,S):=rfl
theorem take_minE (l:List UInt8) (n:Nat):List.take (min l.length n) l=l.take n:=by
 rcases Nat.le_total l.length n with h|h
 . rw[Nat.min_eq_left h,List.take_length,List.take_of_length_le h]
 . rw[Nat.min_eq_right h]
theorem cutNE (s:Bs) (n:Nat) (S:St):qb4 E0 9 (sv s) none (some (.int .i64 ((min s.length n:Nat):Int))) none S=some (sv (s.take n),S):=by
 rw[qdf und9 s (qd2 .i64 (Nat.min_le_left ..)) (Nat.min_le_left ..),List.drop_zero,Nat.sub_zero,take_minE]
theorem minK (n c:Nat) (S:St):qiq minV (.int .i64 (n:Int)) [(.int .i64 (c:Int))] S=some (.int .i64 ((min n c:Nat):Int),S):=by
 rw[qn3]
 congr 3
 omega
theorem qls (i n:Nat) (c:Nat) (K:V->Rs):((qa4 E0 .lss 3 false false (.int .i64 (i:Int)) (.int .i64 (n:Int))).bind fun t10=>
(qa3 true t10).bind fun g12=>(bif g12 then some (V.int .i64 (i:Int))else some (.tuple [])).bind fun t12=>
(qa3 true t10).bind fun g13=>(bif g13 then qa4 E0 .lss 3 false true t12 (.int .i64 (c:Int))else some (.tuple [])).bind fun t13=>
(qbl t10 (some t13) (some (.bool false))).bind fun t14=>K t14)=K (.bool (decide (i<n)&&decide (i<c))):=by
 rw[binV_ii,intsV_lss,oB];by_cases h:i<n
 . rw[show decide ((i:Int)<(n:Int))=true from dT (by omega),dT h]
   simp only[qam,oB,cT,pickV_bool,Bool.true_and];rw[binV_ii,intsV_lss];by_cases h2:i<c
   . rw[show decide ((i:Int)<(c:Int))=true from dT (by omega),dT h2]; rfl
   . rw[show decide ((i:Int)<(c:Int))=false from dF (by omega),dF h2]; rfl
 . rw[show decide ((i:Int)<(n:Int))=false from dF (by omega),dF h]
   rfl
theorem bs_text (ho:S.on=false) (a:Bs):∃U,(∀m,bsP 9 1 1 (Ev.one (sv [])) [(0,sv a)] (stt S m)=some (.slice S.next 0 1 1,stt U (m.map fun l=>⟨S.next,0,big,true⟩::l)))/\Grew (fun _=>False) S U/\U.next=S.next+1:=by
 obtain⟨U,a1,a2,a3,a4⟩:=qdc ho 9 (Ev.one (sv [])) [sv a] (fun v hv=>by rw[List.mem_singleton.1 hv]; exact qep a) (by show 1<big; unfold big; decide);exact⟨U,a1,a3,a4⟩
theorem TLo.pushOn (ho:S.on=false) {v:V} {l:List Bs} {N:Nat} (h:TLo S v l N) (hN:N<=S.next) (hl:l.length<100000) (a:Bs) :
 ∃(W:St) (v':V) (U:St) (l':List LE),bsP 9 1 1 (Ev.one (sv [])) [(0,sv a)] (S.lg [])=some (.slice S.next 0 1 1,W.lg [⟨S.next,0,big,true⟩])/\apP 9 1 16 v (.slice S.next 0 1 1) (W.lg [])=some (v',U.lg l')/\TLo U v' (l++[a]) N/\Grew (fun x=>N<=x) S U:=by
 obtain⟨y,W,v',U,h1,h2,h3,h4⟩:=TLo.push ho h hN hl a;obtain⟨W',k1,k2,k3⟩:=bs_text ho a;have e:=(k1 none).symm.trans (show bsP 9 1 1 (Ev.one (sv [])) [(0,sv a)] (stt S none)=some (y,W)from h1);simp only[oS,pM]at e;obtain⟨rfl,rfl⟩:=e;obtain⟨l',c2⟩:=lg_of (lg_apP 9 1 16 v (.slice S.next 0 1 1)) h2 [];exact⟨_,v',U,l',k1 (some []),c2,h3,h4⟩
end
def cutL (l:List Bs):List Bs:=(l.take 20).map fun a=>a.take 300
def cutP (l:List (Bs×Bs)):List (Bs×Bs):=(l.take 20).map fun p=>(p.1.take 300,p.2.take 300)
def cutD (d:DD):DD:=⟨d.nm.take 300,cutL d.ins,cutP d.env,d.scr.take 5000⟩
theorem map_push {α β:Type} (l:List α) (f:α->β) {i c:Nat} (hi:i<l.length) (hc:i<c):((l.take c).take (i+1)).map f=((l.take c).take i).map f++[f l[i]]:=by
 have h1:i<(l.take c).length:=by rw[List.length_take]; omega
 rw[List.take_add_one,List.getElem?_eq_getElem h1,List.map_append,List.getElem_take]; rfl
section
variable {S T U W:St} {b1 b3 N0:Nat} {A:Tr V}
theorem L78c_spec {m N:Nat} {wI:V} {ins:List Bs} (hA1:A.get 1=some wI) (hTV:TV wI ins) (h13:b1<b3) (h30:b3<N0) {v2:V} (nk:Ac->St->Rs) (ek:Nat->Ac->St->Rs) :
 ∀(d i q:Nat) (T:Tr V) (vI:V) (U:St),i+d=min ins.length 20->d<q->U.on=false->AgAt U b1 25 4 A->AgAt U b3 25 4 T->N0<=U.next->T.get 1=some vI->TLo U vI (((ins.take 20).take i).map fun a=>a.take 300) N0->
 ∃T' vI' W,L5_78 (ev E0 KD m) N nk ek q (.ptr b1 0) v2 (.ptr b3 0) (.int .i64 (i:Int)) U=ek 0 (fr 98 [(1,.ptr b1 0),(2,v2),(3,.ptr b3 0)]) W/\AgAt W b3 25 4 T'/\T'.get 1=some vI'/\(∀j,j≠1->T'.get j=T.get j)/\TLo W vI' (cutL ins) N0/\Grew (fun x=>x=b3\/N0<=x) U W
 | _,_,0,_,_,_,_,hq,_,_,_,_,_,_=>by omega
 | 0,i,q+1,T,vI,U,hi,hq,ho,hA,hT,hN,ht,hL=>by
  refine⟨T,vI,U,?_,hT,ht,fun _ _=>rfl,?_,Grew.refl _ _⟩
  . rw[L5_78_eq,show faP 1 false 1 (.ptr b1 0)=some (.ptr b1 1)from rfl,oB,hA.ld1 ho qcx (by decide) hA1,oB]
    dsimp only;rw[hTV.len,oB];dsimp only
    rw[show(V.int .i64 20)=.int .i64 ((20:Nat):Int)from rfl,qls i ins.length 20,show(decide (i<ins.length)&&decide (i<20))=false from by
     rw[Bool.and_eq_false_iff,decide_eq_false_iff_not,decide_eq_false_iff_not]; omega,ifK_bool,cF]
  . rw[List.take_of_length_le (l:=ins.take 20) (by rw[List.length_take]; omega)]at hL
    exact hL
 | d+1,i,q+1,T,vI,U,hi,hq,ho,hA,hT,hN,ht,hL=>by
  have h1:i<ins.length:=by omega
  have h2:i<20:=by omega
  have hix:=hTV.ix (List.getElem?_eq_getElem h1);obtain⟨W1,v',U1,l1,k1,k2,k3,k4⟩:=TLo.pushOn ho hL hN (by rw[lM,List.length_take]; omega) (ins[i].take 300);have on1:=k4.on.trans ho;have n1:=k4.next
  have hb3:b3<U.next:=by omega
  have hT1:AgAt U1 b3 25 4 T:=hT.grew hb3 (by omega) k4;have hov:=k3.oneV;obtain⟨U2,c1,c2,c3,c4⟩:=hT1.st1 on1 qcx (by decide) (i:=1) (by decide) v' hov.size hov.cells hov.tup;obtain⟨l2,c1'⟩:=qk4 on1 c1;have gU:Grew (fun x=>x=b3\/N0<=x) U (zz U U2):=qga ho ((k4.mono fun x _ e=>.inr e).trans (c3.mono fun x _ e=>.inl e));have g0:Grew (fun _=>False) U2 (zz U U2):=qfe ho (c3.on.trans on1);have nz:(zz U U2).next=U2.next:=rfl
  obtain⟨T',vI',W,t1,t2,t3,t4,t5,t6⟩:=L78c_spec (m:=m) (N:=N) hA1 hTV h13 h30 (v2:=v2) nk ek d (i+1) q (T.set v' 1) v' (zz U U2) (by omega) (by omega) (gU.on.trans ho) (hA.grew (by omega) (fun e=>by rcases e with e|e<;>omega) gU) (c2.grew (by omega) (fun h=>h) g0) (by omega) (by rw[Tr.get_set,iP rfl]) (by
   rw[map_push ins _ h1 h2]
   exact(k3.grewW c3 fun x hx e=>by
    rcases k3 with⟨_,rfl⟩|⟨r,rfl,_,_,h6,_⟩
    . cases hx
    . cases hx; omega).grew g0)
  refine⟨T',vI',W,?_,t2,t3,fun j hj=>by rw[t4 j hj,Tr.get_set,iN hj],t5,gU.trans t6⟩;rw[L5_78_eq,show faP 1 false 1 (.ptr b1 0)=some (.ptr b1 1)from rfl,oB,hA.ld1 ho qcx (by decide) hA1,oB];dsimp only;rw[hTV.len,oB];dsimp only;rw[show(V.int .i64 20)=.int .i64 ((20:Nat):Int)from rfl,qls i ins.length 20,dT h1,dT h2,Bool.and_self,ifK_bool,cT,show faP 1 false 1 (.ptr b3 0)=some (.ptr b3 1)from rfl,oB];simp only[ons,qbk];rw[qbj ho (hT.ld1 ho qcx (by decide) ht) [],oB,oB];simp only[ons,qbk];rw[qbj ho (hA.ld1 ho qcx (by decide) hA1) [],oB];simp only[ons,qbk];rw[hix,oB,ldc,oB,oB];simp only[ons,qbk];rw[qbj ho (hA.ld1 ho qcx (by decide) hA1) [],oB];simp only[ons,qbk];rw[hix,oB,ldc,oB];simp only[ons,qbk];rw[qab,oB];simp only[ons,qbk];rw[show(V.int .i64 300)=.int .i64 ((300:Nat):Int)from rfl,minK,oB];simp only[ons,qbk];rw[cutNE,oB];simp only[ons,qbk];rw[k1,oB];simp only[ons,qbk];rw[k2,oB,oB];simp only[ons,qbk];rw[c1',oB];dsimp only;rw[qbw ?_,qcd ho,qds (by omega),oB]
  . exact t1
  . refine qcn (r1:=U.next) (r2:=U.next+1) (tags:=[0,1,0,1,0,0,0,0,1,0,0,0,0,0,0,2,4,0,4]) (by omega) ?_ (by decide)
    repeat' apply And.intro
    all_goals first
     | trivial
     | (intro e he; cases he; done)
     | (intro e he; cases List.mem_singleton.1 he; exact⟨rfl,by dsimp only; omega,by dsimp only; omega⟩)
     | (intro e he; cases List.mem_singleton.1 he; rfl)
     | (intro e he; trivial)
end
section
variable {S T U W:St} {b1 b3 N0:Nat} {A:Tr V}
theorem L26c_spec {m N:Nat} {wE:V} {env:List (Bs×Bs)} (hA2:A.get 2=some wE) (hTV:EV wE env) (h13:b1<b3) (h30:b3<N0) {v2:V} (nk:Ac->St->Rs) (ek:Nat->Ac->St->Rs) :
 ∀(d i q:Nat) (T:Tr V) (vE:V) (U:St),i+d=min env.length 20->d<q->U.on=false->AgAt U b1 25 4 A->AgAt U b3 25 4 T->N0<=U.next->T.get 2=some vE->VLo U vE (((env.take 20).take i).map fun p=>(p.1.take 300,p.2.take 300)) N0->
 ∃T' vE' W,L5_26 (ev E0 KD m) N nk ek q (.ptr b1 0) v2 (.ptr b3 0) (.int .i64 (i:Int)) U=ek 2 (fr 98 [(2,v2),(3,.ptr b3 0)]) W/\AgAt W b3 25 4 T'/\T'.get 2=some vE'/\(∀j,j≠2->T'.get j=T.get j)/\VLo W vE' (cutP env) N0/\Grew (fun x=>x=b3\/N0<=x) U W
 | _,_,0,_,_,_,_,hq,_,_,_,_,_,_=>by omega
 | 0,i,q+1,T,vE,U,hi,hq,ho,hA,hT,hN,ht,hL=>by
  refine⟨T,vE,U,?_,hT,ht,fun _ _=>rfl,?_,Grew.refl _ _⟩
  . rw[L5_26_eq,show faP 2 false 1 (.ptr b1 0)=some (.ptr b1 2)from rfl,oB,hA.ld1 ho qcx (by decide) hA2,oB]
    dsimp only;rw[hTV.len,oB];dsimp only
    rw[show(V.int .i64 20)=.int .i64 ((20:Nat):Int)from rfl,qls i env.length 20,show(decide (i<env.length)&&decide (i<20))=false from by
     rw[Bool.and_eq_false_iff,decide_eq_false_iff_not,decide_eq_false_iff_not]; omega,ifK_bool,cF]
  . rw[List.take_of_length_le (l:=env.take 20) (by rw[List.length_take]; omega)]at hL
    exact hL
 | d+1,i,q+1,T,vE,U,hi,hq,ho,hA,hT,hN,ht,hL=>by
  have h1:i<env.length:=by omega
  have h2:i<20:=by omega
  have hix:=hTV.ix (List.getElem?_eq_getElem h1);obtain⟨W1,j1,j2,j3,j4⟩:=bs_var ho (qg4 (env[i].1.take 300,env[i].2.take 300));obtain⟨v',U1,l1,k2,k3,k4',hov⟩:=(hL.grew j3 fun _ _ h=>h).pushOn (j3.on.trans ho) (by omega) (by rw[lM,List.length_take]; omega) j2 []
  have k4:Grew (fun x=>N0<=x) U U1:=(j3.mono fun _ _ h=>h.elim).trans (k4'.mono fun x hx e=>by
   rcases hL with⟨_,rfl⟩|⟨r,rfl,_,_,h6,_⟩
   . cases e
   . cases e; exact h6)
  have on1:=k4.on.trans ho;have n1:=k4.next
  have hb3:b3<U.next:=by omega
  have hT1:AgAt U1 b3 25 4 T:=hT.grew hb3 (by omega) k4;obtain⟨U2,c1,c2,c3,c4⟩:=hT1.st1 on1 qcx (by decide) (i:=2) (by decide) v' hov.size hov.cells hov.tup;obtain⟨l2,c1'⟩:=qk4 on1 c1;have gU:Grew (fun x=>x=b3\/N0<=x) U (zz U U2):=qga ho ((k4.mono fun x _ e=>.inr e).trans (c3.mono fun x _ e=>.inl e));have g0:Grew (fun _=>False) U2 (zz U U2):=qfe ho (c3.on.trans on1);have nz:(zz U U2).next=U2.next:=rfl
  obtain⟨T',vE',W,t1,t2,t3,t4,t5,t6⟩:=L26c_spec (m:=m) (N:=N) hA2 hTV h13 h30 (v2:=v2) nk ek d (i+1) q (T.set v' 2) v' (zz U U2) (by omega) (by omega) (gU.on.trans ho) (hA.grew (by omega) (fun e=>by rcases e with e|e<;>omega) gU) (c2.grew (by omega) (fun h=>h) g0) (by omega) (by rw[Tr.get_set,iP rfl]) (by
   rw[map_push env _ h1 h2]
   exact(k3.grew c3 fun x hx e=>by
    rcases k3 with⟨_,rfl⟩|⟨r,rfl,_,_,h6,_⟩
    . cases hx
    . cases hx; omega).grew g0 fun _ _ h=>h)
  refine⟨T',vE',W,?_,t2,t3,fun j hj=>by rw[t4 j hj,Tr.get_set,iN hj],t5,gU.trans t6⟩;rw[L5_26_eq,show faP 2 false 1 (.ptr b1 0)=some (.ptr b1 2)from rfl,oB,hA.ld1 ho qcx (by decide) hA2,oB];dsimp only;rw[hTV.len,oB];dsimp only;rw[show(V.int .i64 20)=.int .i64 ((20:Nat):Int)from rfl,qls i env.length 20,dT h1,dT h2,Bool.and_self,ifK_bool,cT,show faP 2 false 1 (.ptr b3 0)=some (.ptr b3 2)from rfl,oB];simp only[ons,qbk];rw[qbj ho (hT.ld1 ho qcx (by decide) ht) [],oB,oB];simp only[ons,qbk];rw[qbj ho (hA.ld1 ho qcx (by decide) hA2) [],oB];simp only[ons,qbk];rw[hix,oB,fa0,oB,ldc,oB,oB];simp only[ons,qbk];rw[qbj ho (hA.ld1 ho qcx (by decide) hA2) [],oB];simp only[ons,qbk];rw[hix,oB,fa0,oB,ldc,oB];simp only[ons,qbk];rw[qab,oB];simp only[ons,qbk];rw[show(V.int .i64 300)=.int .i64 ((300:Nat):Int)from rfl,minK,oB];simp only[ons,qbk];rw[cutNE,oB,oB];simp only[ons,qbk];rw[qbj ho (hA.ld1 ho qcx (by decide) hA2) [],oB];simp only[ons,qbk];rw[hix,oB,fa1,oB,ldc,oB,oB];simp only[ons,qbk];rw[qbj ho (hA.ld1 ho qcx (by decide) hA2) [],oB];simp only[ons,qbk];rw[hix,oB,fa1,oB,ldc,oB];simp only[ons,qbk];rw[qab,oB];simp only[ons,qbk];rw[minK,oB];simp only[ons,qbk];rw[cutNE,oB,build_41,oB];simp only[ons,qbk];rw[j1 [],oB];simp only[ons,qbk];rw[k2,oB,oB];simp only[ons,qbk];rw[c1',oB];dsimp only;rw[qbw ?_,qcd ho,qds (by omega),oB]
  . exact t1
  . refine qcn (r1:=U.next) (r2:=U.next+1) (tags:=[0,1,0,1,0,0,0,0,0,1,0,0,0,0,0,0,0,0,1,0,0,0,0,0,1,0,0,0,0,0,0,0,0,2,4,0,4]) (by omega) ?_ (by decide)
    repeat' apply And.intro
    all_goals first
     | trivial
     | (intro e he; cases he; done)
     | (intro e he; cases List.mem_singleton.1 he; exact⟨rfl,by dsimp only; omega,by dsimp only; omega⟩)
     | (intro e he; cases List.mem_singleton.1 he; rfl)
     | (intro e he; trivial)
theorem rq5' {n:Nat} {args:List V} {s:St} {r:En×St} (e:qay E0 (ev E0 KD n) qa1 Tryz.f5 B5 args s=some r):(ev E0 KD (n+1)).f 5 args s=some r:=qa5 (c:=C5) (d:=B5) (by kernel_rfl) (by kernel_rfl) (qa2 C5 _ (by kernel_rfl)) rfl e
structure Raw (A:Tr V) (d:DD):Prop where
 nm:A.get 0=some (sv d.nm)
 ins:∃w,A.get 1=some w/\TV w d.ins
 env:∃w,A.get 2=some w/\EV w d.env
 scr:A.get 3=some (sv d.scr)
noncomputable def T0 (a b:Bs):Tr V:=Tr.ofListFrom .nil [sv a,.nilslice,.nilslice,sv b] 0
theorem build_25b (a b:Bs):qd3 E0 25 [(0,sv a),(3,sv b)]=some (.agg 4 (T0 a b)):=by kernel_rfl
end
section
variable {S T U W:St} {A:Tr V} {d:DD}
theorem cut_run (hR:Raw A d) (ho:S.on=false) (m:Nat):∃T vI vE U N,(ev E0 KD (m+1)).f 5 [.agg 4 A] S=some (.ret (.agg 4 T),U)/\DrvT T (cutD d).nm vI vE (cutD d).scr/\TLo U vI (cutD d).ins N/\VLo U vE (cutD d).env N/\U.on=false/\Grew (fun _=>False) S U/\S.next<=N:=by
 obtain⟨wI,i1,i2⟩:=hR.ins;obtain⟨wE,e1,e2⟩:=hR.env;obtain⟨a1,a2,a3⟩:=qbt ho 25 4 A;have on1:=a2.on.trans ho;have hF:=F5_eq (ev E0 KD m) qa1 (.agg 4 A) S;rw[show qle 25 (.agg 4 A) S=some (.ptr S.next 0,(nwP 25 4 A S).2)from rfl,oB]at hF;dsimp only at hF;generalize (nwP 25 4 A S).2=S1 at a1 a2 a3 on1 hF;obtain⟨b1,b2,b3⟩:=qbt on1 25 4 ZD;rw[oB,qe2,show nwP 25 4 (Tr.ofListFrom .nil [(sv []),.nilslice,.nilslice,(sv [])] 0) S1=nwP 25 4 ZD S1 from rfl]at hF;generalize (nwP 25 4 ZD S1).2=S2 at b1 b2 b3 hF;have on2:=b2.on.trans on1;have hA2:AgAt S2 S.next 25 4 A:=a1.grew (by omega) (fun h=>h) b2
 obtain⟨c1,c2,c3⟩:=qbt on2 25 4 ZD
 have hnw:nwP 25 4 (Tr.ofListFrom .nil [(sv []),.nilslice,.nilslice,(sv [])] 0) (S2.lg [])=(.ptr S2.next 0,(nwP 25 4 ZD S2).2.lg [⟨S2.next,0,big,true⟩]):=by
  unfold nwP qae;rw[nw_lg on2]; rfl
 generalize (nwP 25 4 ZD S2).2=S3 at c1 c2 c3 hnw;have on3:=c2.on.trans on2;obtain⟨S4,k1,k2,k3,k4⟩:=c1.stA on3 qcx (T0 (d.nm.take 300) (d.scr.take 5000));obtain⟨l4,k1'⟩:=qk4 on3 k1;have n0:ld1 (.ptr S.next 0) S2=some (sv d.nm,S2):=hA2.ld1 on2 qcx (by decide) hR.nm;have n3:ld1 (.ptr S.next 3) S2=some (sv d.scr,S2):=hA2.ld1 on2 qcx (by decide) hR.scr;rw[show faP 0 false 1 (.ptr S.next 0)=some (.ptr S.next 0)from rfl,oB]at hF;simp only[ons,qbk]at hF;rw[qbj on2 n0 [],oB,oB]at hF;simp only[ons,qbk]at hF;rw[qbj on2 n0 [],oB]at hF;simp only[ons,qbk]at hF;rw[qab,oB]at hF;simp only[ons,qbk]at hF;rw[show(V.int .i64 300)=.int .i64 ((300:Nat):Int)from rfl,minK,oB]at hF;simp only[ons,qbk]at hF;rw[cutNE,oB,show faP 3 false 1 (.ptr S.next 0)=some (.ptr S.next 3)from rfl,oB]at hF;simp only[ons,qbk]at hF;rw[qbj on2 n3 [],oB,oB]at hF;simp only[ons,qbk]at hF;rw[qbj on2 n3 [],oB]at hF;simp only[ons,qbk]at hF;rw[qab,oB]at hF;simp only[ons,qbk]at hF;rw[show(V.int .i64 5000)=.int .i64 ((5000:Nat):Int)from rfl,minK,oB]at hF;simp only[ons,qbk]at hF;rw[cutNE,oB,build_25b,oB]at hF;simp only[ons,qbk]at hF;rw[hnw,oB]at hF;simp only[ons,qbk]at hF;rw[k1',oB]at hF;dsimp only at hF;have gz:Grew (fun x=>x=S2.next) S2 (zz S2 S4):=qga on2 ((c2.mono fun _ _ h=>h.elim).trans k3);have g0:Grew (fun _=>False) S4 (zz S2 S4):=qfe on2 (k3.on.trans on3)
 have nz:(zz S2 S4).next=S4.next:=rfl
 have hA5:AgAt (zz S2 S4) S.next 25 4 A:=hA2.grew (by omega) (by omega) gz
 have hT5:AgAt (zz S2 S4) S2.next 25 4 (T0 (d.nm.take 300) (d.scr.take 5000)):=k2.grew (by omega) (fun h=>h) g0
 have on5:=gz.on.trans on2;have t1:(T0 (d.nm.take 300) (d.scr.take 5000)).get 1=some .nilslice:=by unfold T0; rw[Tr.get_ofList]; rfl
 have t2:(T0 (d.nm.take 300) (d.scr.take 5000)).get 2=some .nilslice:=by unfold T0; rw[Tr.get_ofList]; rfl
 have t0:(T0 (d.nm.take 300) (d.scr.take 5000)).get 0=some (sv (d.nm.take 300)):=by unfold T0; rw[Tr.get_ofList]; rfl
 have t3:(T0 (d.nm.take 300) (d.scr.take 5000)).get 3=some (sv (d.scr.take 5000)):=by unfold T0; rw[Tr.get_ofList]; rfl
 obtain⟨TA,vI,S6,p1,p2,p3,p4,p5,p6⟩:=L78c_spec (m:=m) (N:=qa1) (b1:=S.next) (b3:=S2.next) (N0:=S4.next) i1 i2 (by omega) (by omega) (v2:=.ptr S1.next 0) (R5_20 (ev E0 KD m) qa1 (qb5 E0 (ev E0 KD m) Tryz.f5) qak) (exB 0 (R5_20 (ev E0 KD m) qa1 (qb5 E0 (ev E0 KD m) Tryz.f5) qak) qak) (min d.ins.length 20) 0 qa1 _ .nilslice (zz S2 S4) (by omega) (by unfold qa1; omega) on5 hA5 hT5 (by omega) t1 (by rw[List.take_zero]; exact .nil);have n6:=p6.next
 have on6:=p6.on.trans on5;have hA6:AgAt S6 S.next 25 4 A:=hA5.grew (by omega) (by omega) p6
 obtain⟨TB,vE,S7,q1,q2,q3,q4,q5,q6⟩:=L26c_spec (m:=m) (N:=qa1) (b1:=S.next) (b3:=S2.next) (N0:=S6.next) e1 e2 (by omega) (by omega) (v2:=.ptr S1.next 0) (R5_21 (ev E0 KD m) qa1 (fun a s=>qad [2] a fun a=>qb5 E0 (ev E0 KD m) Tryz.f5 a s) qak) (exB 2 (R5_21 (ev E0 KD m) qa1 (fun a s=>qad [2] a fun a=>qb5 E0 (ev E0 KD m) Tryz.f5 a s) qak) qak) (min d.env.length 20) 0 qa1 TA .nilslice S6 (by omega) (by unfold qa1; omega) on6 hA6 p2 (lR _) ((p4 2 (by decide)).trans t2) (by rw[List.take_zero]; exact .inl ⟨rfl,rfl⟩);have n7:=q6.next
 have on7:=q6.on.trans on6;have hB7:AgAt S7 S1.next 25 4 ZD:=((b1.grew (by omega) (by omega) gz).grew (by omega) (by omega) p6).grew (by omega) (by omega) q6
 obtain⟨S8,r1,r2,r3,r4⟩:=hB7.stA on7 qcx TB;have on8:=r3.on.trans on7
 have hI7:TLo S7 vI (cutD d).ins S4.next:=p5.grewW q6 fun x hx e=>by
  rcases p5 with⟨_,rfl⟩|⟨r,rfl,_,h5,h6,_⟩
  . cases hx
  . cases hx; rcases e with e|e<;>omega
 have hI8:TLo S8 vI (cutD d).ins S4.next:=hI7.grewW r3 fun x hx e=>by
  rcases hI7 with⟨_,rfl⟩|⟨r,rfl,_,h5,h6,_⟩
  . cases hx
  . cases hx; omega
 have hE8:VLo S8 vE (cutD d).env S6.next:=q5.grew r3 fun x hx e=>by
  rcases q5 with⟨_,rfl⟩|⟨r,rfl,_,h5,h6,_⟩
  . cases hx
  . cases hx; omega
 refine⟨TB,vI,vE,S8,S4.next,rq5' ?_,⟨(q4 0 (by decide)).trans ((p4 0 (by decide)).trans t0),(q4 1 (by decide)).trans p3,q3,(q4 3 (by decide)).trans ((p4 3 (by decide)).trans t3)⟩,hI8,?_,on8,?_,by omega⟩
 . refine hF.trans ?_
   rw[qbw ?_,qcd on2,show V.int .i64 0=.int .i64 ((0:Nat):Int)from rfl]
   . refine p1.trans ?_
     rw[exB_same,R5_20_eq,show V.int .i64 0=.int .i64 ((0:Nat):Int)from rfl];refine q1.trans ?_;rw[exB_same,R5_21_eq,q2.ldA on7 qcx,oB];dsimp only;rw[r1,oB];dsimp only;rw[r2.ldrA on8 qcx,oB]
   . refine qcn (r1:=S2.next) (r2:=S2.next+1) (tags:=[0,1,0,1,0,0,0,0,1,0,1,0,0,0,0,2,4]) (by omega) ?_ (by decide)
     repeat' apply And.intro
     all_goals first
      | trivial
      | (intro e he; cases he; done)
      | (intro e he; cases List.mem_singleton.1 he; exact⟨rfl,by dsimp only; omega,by dsimp only; omega⟩)
      | (intro e he; cases List.mem_singleton.1 he; rfl)
      | (intro e he; trivial)
 . rcases hE8 with h|⟨r,h1,h2,h3,h4,h5⟩
   . exact .inl h
   . exact .inr ⟨r,h1,h2,h3,by omega,h5⟩
 . exact Grew.then (Grew.then (Grew.then (Grew.then (Grew.then a2 b2 fun _ _ h=>h) gz fun x hx e=>by omega) p6 fun x hx e=>by rcases e with e|e<;>omega) q6 fun x hx e=>by rcases e with e|e<;>omega) r3 fun x hx e=>by omega
end
end Go.Proofs.YtpgegoeghaplkaaGreatDoor.W
