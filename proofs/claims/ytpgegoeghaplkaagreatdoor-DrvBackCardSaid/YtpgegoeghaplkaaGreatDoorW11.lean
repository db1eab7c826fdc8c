/-
  WHAT THE FUNCTIONS COME TO: each is read by the evaluator,printed,and told as a function of data,part 11 of 13 (no condition).
-/
import Derived.Test.YtpgegoeghaplkaaGreatDoorW10
namespace Go.Proofs.YtpgegoeghaplkaaGreatDoor.W
open Go.Proofs.YtpgegoeghaplkaaGreatDoor.Ev Go.RowKit
theorem body58:E0.ext.get 76=none/\qat E0 76=true:=⟨by kernel_rfl,by kernel_rfl⟩
theorem bodyMay:(E0.ext.get 39=none/\qat E0 39=true)/\(E0.ext.get 40=none/\qat E0 40=true)/\(E0.ext.get 41=none/\qat E0 41=true)/\(E0.ext.get 45=none/\qat E0 45=true)/\(E0.ext.get 47=none/\qat E0 47=true)/\(E0.ext.get 51=none/\qat E0 51=true):=⟨⟨by kernel_rfl,by kernel_rfl⟩,⟨by kernel_rfl,by kernel_rfl⟩,⟨by kernel_rfl,by kernel_rfl⟩,⟨by kernel_rfl,by kernel_rfl⟩,⟨by kernel_rfl,by kernel_rfl⟩,by kernel_rfl,by kernel_rfl⟩
section
variable {S S0 T U:St} {q pn N:Nat} {d:DD} {vI vE vN:V} {Tt:Tr V}
theorem L79_spec {m M:Nat} (nk:Ac->St->Rs) (ek:Nat->Ac->St->Rs) {r:Nat} (h0:S0.on=false) (g:V->Bool) (fs:List V) (hk:fs.length<1000) (hr:RowAt S0 r 30 1 (fs.map Ev.one)) (hlt:r<S0.next)
 (hf:∀f∈fs,∀S',Grew (fun _=>False) S0 S'->∃U,qc2 E0 (ev E0 KD (m+6)) f [] S'=some (.ret (.bool (g f)),U)/\Grew (fun _=>False) S' U) :
 ∀(l:List V) (i n:Nat) (S:St),Grew (fun _=>False) S0 S->fs.drop i=l->l.length<n->
 ∃(j:Nat) (U:St),L102_6 (ev E0 KD (m+7)) M nk ek n (.slice r 0 fs.length fs.length) (.fn (.func 76) [] []) (.int .i64 (fs.length:Int)) (.int .i64 (i:Int)) S=(if l.all g then ek 0 (fr 19 []) U else some (.ret (.int .i64 (j:Int)),U))/\Grew (fun _=>False) S U
 | _,_,0,_,_,_,hn=>by omega
 | [],i,n+1,S,_,hi,_=>⟨0,S,by
  rw[L102_6_eq,qff,dF (Nat.not_lt.2 (qbe hi)),oB,ifK_bool,cF]
  rfl,Grew.refl _ _⟩
 | f::l,i,n+1,S,hg,hi,hn=>by
  obtain⟨hlt',hc,hr',hm⟩:=qbv hi;obtain⟨U1,u1,u2⟩:=hf f hm S hg;obtain⟨j,U,ih,g2⟩:=L79_spec (m:=m) (M:=M) nk ek h0 g fs hk hr hlt hf l (i+1) n U1 (hg.trans u2) hr' (by simpa using hn);have hl:ld1 (.ptr r i) S=some (f,S):=(hr.grew hlt (fun h=>h) hg).ld1 (hg.on.trans h0) (by rw[List.getElem?_map,List.getElem?_eq_getElem hlt',hc]; rfl)
  have h58:(ev E0 KD (m+7)).f 76 [f] S=some (.ret (.bool (!g f)),U1):=rq58 (by
   show F76 (ev E0 KD (m+6)) qa1 f S=_
   rw[F76_eq,u1,callP_ret,unV_not,oB])
  rw[L102_6_eq,qff,dT hlt',oB,ifK_bool,cT,ixP_sl r fs.length i hlt',oB,hl,oB];dsimp only;rw[qb6 body58.1 body58.2];show ∃(j:Nat) (U:St),(qaa ((ev E0 KD (m+7)).f 76 [f] S) _)=_/\_;rw[h58,callP_ret,ifK_bool,List.all_cons];cases g f with
  | false=>exact⟨i,U1,rfl,u2⟩
  | true=>exact⟨j,U,by rw[Bool.not_true,cF,qds (by omega),oB,ih,Bool.true_and],u2.trans g2⟩
def fns6 (q pn:Nat):List V:=[.fn (.func 39) [] [.ptr q 0],.fn (.func 40) [] [.ptr q 0],.fn (.func 41) [] [.ptr q 0],.fn (.func 45) [] [.ptr q 0,.ptr pn 0],.fn (.func 47) [] [.ptr q 0],.fn (.func 51) [] [.ptr q 0]]
def gM (d:DD):V->Bool
 | .fn (.func 39) _ _=>qcr d.nm
 | .fn (.func 40) _ _=>decide (d.ins.length<=8/\d.env.length<=16)
 | .fn (.func 41) _ _=>d.ins.all qai
 | .fn (.func 45) _ _=>qd9 d.ins&&qd9 (d.env.map Prod.fst)
 | .fn (.func 47) _ _=>d.env.all varOk
 | _=>decide (d.scr.length<=4000)
theorem all_may (q pn:Nat) (d:DD):(fns6 q pn).all (gM d)=qft qcr qai qdt d:=by
 unfold fns6 qft;simp only[List.all_cons,List.all_nil,Bool.and_true,gM,Bool.and_assoc];rfl
theorem may_call (h:Dv S0 q N Tt d vI vE) (hN:AgAt S0 pn 22 1 (Ev.one vN)) (hp:pn<S0.next) {M:Nat} (hn:TLo S0 vN (d.env.map Prod.fst) M) (m:Nat):∀f∈fns6 q pn,∀S',Grew (fun _=>False) S0 S'->∃U,qc2 E0 (ev E0 KD (m+6)) f [] S'=some (.ret (.bool (gM d f)),U)/\Grew (fun _=>False) S' U:=fun f hf S' hg=>by
 have h':=h.grew0 hg;have hN':=hN.grew hp (fun h=>h) hg;have hn':=hn.grew hg;simp only[fns6,List.mem_cons,List.not_mem_nil,or_false]at hf;rcases hf with rfl|rfl|rfl|rfl|rfl|rfl
 . rw[qb6 bodyMay.1.1 bodyMay.1.2]; exact⟨S',f30_run h' (m+4),Grew.refl _ _⟩
 . rw[qb6 bodyMay.2.1.1 bodyMay.2.1.2]; exact⟨S',f31_run h' (m+5),Grew.refl _ _⟩
 . rw[qb6 bodyMay.2.2.1.1 bodyMay.2.2.1.2]; exact⟨S',f32_run h' (m+1),Grew.refl _ _⟩
 . rw[qb6 bodyMay.2.2.2.1.1 bodyMay.2.2.2.1.2]; exact⟨S',f35_run h' hN' hn' (m+4),Grew.refl _ _⟩
 . rw[qb6 bodyMay.2.2.2.2.1.1 bodyMay.2.2.2.2.1.2]; exact f36_run h' m
 . rw[qb6 bodyMay.2.2.2.2.2.1 bodyMay.2.2.2.2.2.2]; exact⟨S',f39_run h' (m+5),Grew.refl _ _⟩
theorem L15_spec {m M1 Nn:Nat} (nk:Ac->St->Rs) (ek:Nat->Ac->St->Rs) (v1:V) {l:List (Bs×Bs)} (hl:l.length<=1000) :
 ∀(r:List (Bs×Bs)) (i n:Nat) (S:St) (vN:V),S.on=false->VLo S vE l N->AgAt S pn 22 1 (Ev.one vN)->TLo S vN ((l.take i).map Prod.fst) M1->pn<M1->M1<=S.next->(∀x,qcj vE=some x->x<pn)->l.drop i=r->r.length<n->
 ∃(U:St) (vN':V),L15_17 (ev E0 KD (m+10)) Nn nk ek n v1 (.ptr pn 0) vE (.int .i64 (l.length:Int)) (.int .i64 (i:Int)) S=ek 0 (fr 27 [(1,v1),(3,.ptr pn 0)]) U/\AgAt U pn 22 1 (Ev.one vN')/\TLo U vN' (l.map Prod.fst) M1/\Grew (fun x=>pn<=x) S U
 | _,_,0,_,_,_,_,_,_,_,_,_,_,hn=>by omega
 | [],i,n+1,S,vN,ho,hE,hA,hT,_,_,_,hi,_=>by
  refine⟨S,vN,?_,hA,?_,Grew.refl _ _⟩
  . rw[L15_17_eq,qff,dF (Nat.not_lt.2 (qbe hi)),oB,ifK_bool,cF]
  . rwa [List.take_of_length_le (qbe hi)]at hT
 | p::r,i,n+1,S,vN,ho,hE,hA,hT,hpn,hM,hblk,hi,hn=>by
  obtain⟨hlt,hc,hr',hm⟩:=qbv hi;obtain⟨x,x1,x2⟩:=hE.ldA ho (show l[i]?=some p by rw[List.getElem?_eq_getElem hlt,hc]);obtain⟨a1,a2,a3⟩:=qbt ho 41 2 (Tr.ofListFrom .nil [(sv []),(sv [])] 0);have on1:=a2.on.trans ho;obtain⟨S2,b1,b2,b3,b4⟩:=a1.stA on1 big2 (qg4 p);have on2:=b3.on.trans on1;have g2:Grew (fun _=>False) S S2:=a2.own (lR _) b3;have hA2:=hA.grew (by omega) (fun h=>h) g2;have hT2:=hT.grew g2;have n2:=g2.next
  obtain⟨y,W,v',S3,k1,k2,k3,k4⟩:=hT2.push on2 (by omega) (by rw[lM,List.length_take]; omega) p.1;have on3:=k4.on.trans on2;have n3:=k4.next
  have hA3:=hA2.grew (by omega) (by omega) k4;have hv':=k3.oneV;obtain⟨S4,c1,c2,c3,c4⟩:=hA3.st_one on3 v' hv'.size hv'.cells hv'.tup;have g4:Grew (fun x=>pn<=x) S S4:=(g2.mono fun _ _ h=>(h:False).elim).trans ((k4.mono fun x _ hx=>by omega).trans (c3.mono fun x _ hx=>by omega))
  have hT4:TLo S4 v' (((l.take (i+1)).map Prod.fst)) M1:=by
   have:(l.take (i+1)).map Prod.fst=(l.take i).map Prod.fst++[p.1]:=by rw[qo7 hlt,hc,List.map_append]; rfl
   rw[this]
   exact k3.grewW c3 fun z hz e=>by
    rcases k3 with⟨_,rfl⟩|⟨r0,rfl,_,_,h6,_⟩
    . cases hz
    . cases hz; omega
  obtain⟨U,vN',d1,d2,d3,d4⟩:=L15_spec (m:=m) (M1:=M1) (Nn:=Nn) nk ek v1 hl r (i+1) n S4 v' (c3.on.trans on3) (hE.grew g4 fun z hz h=>by have:=hblk z hz; omega) c2 hT4 hpn (by omega) hblk hr' (by simpa using hn);refine⟨U,vN',?_,d2,d3,g4.trans d4⟩;rw[L15_17_eq,qff,dT hlt,oB,ifK_bool,cT,x1,oB,x2,oB];dsimp only;rw[oB,qe2,b1,oB];dsimp only;rw[hA2.ld1 on2 big1' (by decide) rfl,oB];dsimp only;rw[show faP 0 false 1 (.ptr S.next 0)=some (.ptr S.next 0)from rfl,oB,b2.ld1 on2 big2 (by decide) (show(qg4 p).get 0=some (sv p.1) by unfold qg4; rw[Tr.get_ofList]; rfl),oB];dsimp only;rw[k1,oB];dsimp only;rw[k2,oB];dsimp only;rw[c1,oB];dsimp only;rw[qds (by omega),oB,d1]
structure Dx (S:St) (N:Nat) (Tt:Tr V) (d:DD) (vI vE:V):Prop where
 on:S.on=false
 t:DrvT Tt d.nm vI vE d.scr
 ins:TLo S vI d.ins N
 env:VLo S vE d.env N
 li:d.ins.length<=1000
 le:d.env.length<=1000
 ln:d.nm.length<=20000
 lp:∀p∈d.ins,p.length<=20000
 lv:∀p∈d.env,p.1.length<=20000
 lw:∀p∈d.env,p.2.length<=1000
 ls:d.scr.length<=20000
theorem Dx.env_lt (h:Dx S N Tt d vI vE):∀x,qcj vE=some x->x<S.next:=fun x hx=>by
 rcases h.env with⟨_,rfl⟩|⟨r,rfl,_,h3,_⟩
 . cases hx
 . cases hx; exact h3
theorem f15_run (h:Dx S N Tt d vI vE) (m:Nat):∃U,(ev E0 KD (m+11)).f 15 [.agg 4 Tt] S=some (.ret (.bool (qft qcr qai qdt d)),U)/\Grew (fun _=>False) S U:=by
 have ho:=h.on;obtain⟨a1,a2,a3⟩:=qbt ho 25 4 Tt;have on1:=a2.on.trans ho;have hF:=F15_eq (ev E0 KD (m+10)) qa1 (.agg 4 Tt) S;rw[show qle 25 (.agg 4 Tt) S=some (.ptr S.next 0,(nwP 25 4 Tt S).2)from rfl,oB]at hF;dsimp only at hF;generalize (nwP 25 4 Tt S).2=S1 at a1 a2 a3 on1 hF;obtain⟨b1,b2,b3⟩:=qbt on1 22 1 (Ev.one .nilslice);have on2:=b2.on.trans on1;rw[oB,qe2]at hF;generalize (nwP 22 1 (Ev.one .nilslice) S1).2=S2 at b1 b2 b3 on2 hF;have g2:Grew (fun _=>False) S S2:=a2.trans b2;have hag2:AgAt S2 S.next 25 4 Tt:=a1.grew (by omega) (fun h=>h) b2
 have hE2:=h.env.grew g2 fun _ _ h=>h;rw[show faP 2 false 1 (.ptr S.next 0)=some (.ptr S.next 2)from rfl,oB,hag2.ld1 on2 qcx (by decide) h.t.env,oB]at hF;dsimp only at hF;rw[hE2.len,oB]at hF;dsimp only at hF;have hblk:=h.env_lt;obtain⟨S3,vN,c1,c2,c3,c4⟩:=L15_spec (vE:=vE) (N:=N) (pn:=S1.next) (m:=m) (M1:=S2.next) (Nn:=qa1) (R15_3 (ev E0 KD (m+10)) qa1 (qb5 E0 (ev E0 KD (m+10)) Tryz.f15) qak) (exB 0 (R15_3 (ev E0 KD (m+10)) qa1 (qb5 E0 (ev E0 KD (m+10)) Tryz.f15) qak) qak) (.ptr S.next 0) h.le d.env 0 qa1 S2 .nilslice on2 hE2 b1 (.inl ⟨rfl,rfl⟩) (by omega) (lR _) (fun x hx=>by have:=hblk x hx; omega) rfl (by have:=h.le; unfold qa1; omega);have on3:=c4.on.trans on2;have n3:=c4.next
 rw[show V.int .i64 0=.int .i64 ((0:Nat):Int)from rfl,c1,exB_same,R15_3_eq]at hF;have gS3:Grew (fun _=>False) S S3:=Grew.fresh g2 (N:=S1.next) (by omega) c4
 obtain⟨S4,e1,e2,e3,e4⟩:=qdc on3 30 (Ev.one .nilfn) (fns6 S.next S1.next) (fun v hv=>by
  simp only[fns6,List.mem_cons,List.not_mem_nil,or_false]at hv
  rcases hv with rfl|rfl|rfl|rfl|rfl|rfl<;>exact⟨rfl,rfl,rfl,rfl⟩) (by show 6<big; unfold big; decide)
 have on4:=e3.on.trans on3;rw[show bsP 30 1 6 (Ev.one .nilfn) [(0,(.fn (.func 39) [] [.ptr S.next 0])),(1,(.fn (.func 40) [] [.ptr S.next 0])),(2,(.fn (.func 41) [] [.ptr S.next 0])),(3,(.fn (.func 45) [] [.ptr S.next 0,.ptr S1.next 0])),(4,(.fn (.func 47) [] [.ptr S.next 0])),(5,(.fn (.func 51) [] [.ptr S.next 0]))] S3=some (.slice S3.next 0 6 6,S4)from e1 none,oB]at hF;dsimp only at hF;have g4:Grew (fun x=>S1.next<=x) S2 S4:=c4.trans (e3.mono fun _ _ h=>(h:False).elim);have gS4:=gS3.trans e3;have hDv:Dv S4 S.next N Tt d vI vE:=⟨on4,by have:=e3.next; omega,hag2.grew (by omega) (by omega) g4,h.t,h.ins.grew gS4,h.env.grew gS4 fun _ _ h=>h,h.li,h.le,h.ln,h.lp,h.lv,h.lw,h.ls⟩
 obtain⟨j,U,l1,l2⟩:=L79_spec (m:=m) (M:=qa1) (R102_1 (ev E0 KD (m+7)) qa1 (qb5 E0 (ev E0 KD (m+7)) Tryz.f102) qak) (exB 0 (R102_1 (ev E0 KD (m+7)) qa1 (qb5 E0 (ev E0 KD (m+7)) Tryz.f102) qak) qak) on4 (gM d) (fns6 S.next S1.next) (by show 6<1000; decide) e2 (by omega) (may_call hDv (c2.grew (by omega) (fun h=>h) e3) (by have:=e3.next; omega) (c3.grew e3) m) (fns6 S.next S1.next) 0 qa1 S4 (Grew.refl _ _) rfl (by unfold qa1 fns6; simp);rw[all_may]at l1
 have h79:(ev E0 KD (m+8)).f 102 [.slice S3.next 0 6 6,.fn (.func 76) [] []] S4=some (.ret (.int .i64 (if qft qcr qai qdt d then -1 else(j:Int))),U):=rq79 (by
  show F102 (ev E0 KD (m+7)) qa1 (.slice S3.next 0 6 6) (.fn (.func 76) [] []) S4=_;rw[F102_eq,qjq (n:=6) (fun _ _ e=>by cases e) rfl,oB];dsimp only;rw[show V.int .i64 0=.int .i64 ((0:Nat):Int)from rfl];refine Eq.trans l1 ?_;cases qft qcr qai qdt d with
  | false=>rfl
  | true=>rw[iP rfl,exB_same,R102_1_eq]; rfl)
 have h57:(ev E0 KD (m+9)).f 75 [.slice S3.next 0 6 6,.fn (.func 76) [] []] S4=some (.ret (.bool (!qft qcr qai qdt d)),U):=rq57 (by
  show F75 (ev E0 KD (m+8)) qa1 (.slice S3.next 0 6 6) (.fn (.func 76) [] []) S4=_;rw[F75_eq,h79,callP_ret,binV_ii,intsV_geq];cases qft qcr qai qdt d with
  | true=>rfl
  | false=>rw[iN (by simp),oB,dT (by omega)]; rfl)
 have h29:(ev E0 KD (m+10)).f 38 [.slice S3.next 0 6 6] S4=some (.ret (.bool (qft qcr qai qdt d)),U):=rq29 (by
  show F38 (ev E0 KD (m+9)) qa1 (.slice S3.next 0 6 6) S4=_
  rw[F38_eq,h57,callP_ret,unV_not,oB,Bool.not_not])
 rw[h29,callP_ret]at hF;exact⟨U,rq15 hF,gS4.trans l2⟩
end
theorem ext80:E0.ext.get 103=some 105:=by kernel_rfl
section
variable {S T U:St} {b N:Nat}
theorem make_lg (self:EV) (n:Nat) (hn:n<1000000) (S:St):qc2 E0 self (.fn (.func 103) [] []) [.int .i64 (n:Int)] S=some (.ret (.oslice S.next 0 n 1),nw S (.cells 5 1 n false .nil)):=by
 have h:=qmn (E:=E0) (self:=self) ext80 [] [] [.int .i64 (n:Int)] S;have h1:extV 105 [.int .i64 (n:Int)] S=bif Nat.blt n qac then some (.val (.oslice S.next 0 n 1) (nw S (.cells 5 1 n false .nil)))else none:=rfl;rw[blt_true.2 (show n<qac by unfold qac; omega),cT]at h1;rw[List.nil_append,List.append_nil,h1]at h;exact h
theorem pairs62 {b N:Nat} (hb:b≠N) (l:List LE):qaq [[],[],[],[⟨b,1,1+1,false⟩],[],[],[],[],[⟨N,0,big,true⟩],[],[],[],[⟨b,1,1+1,false⟩],[],l,[]] [(3,[12,13]),(4,[12,13]),(8,[12,13])]=true:=by
 have h1:qbu [⟨b,1,1+1,false⟩] [⟨b,1,1+1,false⟩]=false:=qc3 (by simp);have h2:qbu [⟨N,0,big,true⟩] [⟨b,1,1+1,false⟩]=false:=qc3 (by simp; exact fun e=>hb e.symm);have h3:qbu [⟨b,1,1+1,false⟩] []=false:=qc3 (by simp);have h4:qbu [⟨N,0,big,true⟩] []=false:=qc3 (by simp);show(bif (bif qbu [⟨b,1,1+1,false⟩] [⟨b,1,1+1,false⟩]then true else(bif qbu [⟨b,1,1+1,false⟩] []then true else false))then false else(bif (bif qbu ([]:List LE) [⟨b,1,1+1,false⟩]then true else(bif qbu ([]:List LE) []then true else false))then false else(bif (bif qbu [⟨N,0,big,true⟩] [⟨b,1,1+1,false⟩]then true else(bif qbu [⟨N,0,big,true⟩] []then true else false))then false else true)))=true;rw[h1,h2,h3,h4];rfl
def Fresh (S:St) (b N:Nat):Prop:=S.on=false/\b<N/\N<=S.next/\∃t,AgAt S b 45 2 t/\(t.get 0=some .nilptr\/t.get 0=some (.ptr b 0))/\t.get 1=some .nilslice
theorem fresh_new (ho:S.on=false):Fresh (nwP 45 2 (Tr.ofListFrom .nil [.nilptr,.nilslice] 0) S).2 S.next (S.next+1):=by
 obtain⟨a1,a2,a3⟩:=qbt ho 45 2 (Tr.ofListFrom .nil [.nilptr,.nilslice] 0);exact⟨a2.on.trans ho,by omega,by omega,_,a1,.inl rfl,rfl⟩
theorem check_fresh (m:Nat) (h:Fresh S b N):∃U,(ev E0 KD (m+1)).f 52 [.ptr b 0] S=some (.ret (.tuple []),U)/\Fresh U b N/\Grew (fun x=>x=b) S U:=by
 obtain⟨ho,hb,hN,t,h1,h2,h3⟩:=h;obtain⟨c,hc1,hc2⟩:=id h1
 have hhead:∀u,t.get 0=some u->headB 45 b S=some (u,S):=fun u hu=>by
  unfold headB;rw[hc1];dsimp only;rw[show(Nat.beq 45 45&&Nat.beq 2 2&&Nat.blt 0 1&&!false)=true from rfl,cT,hc2,oB,hu,oB,qaw ho]
 rcases h2 with h2|h2
 . obtain⟨w,k1,k2,k3,k4⟩:=h1.st1 ho big2 (by decide) (i:=0) (by decide) (.ptr b 0) rfl rfl rfl
   have hst:stK S b 0 1 (Ev.one (.ptr b 0))=some w:=by
    have hk:vu (stK S b 0 1 (Ev.one (.ptr b 0)))=some (.tuple [],w):=k1;cases hq:stK S b 0 1 (Ev.one (.ptr b 0))with
    | none=>rw[hq]at hk; cases hk
    | some z=>rw[hq]at hk; cases hk; rfl
   refine⟨w,?_,⟨k3.on.trans ho,hb,by omega,_,k2,.inr (setS _ _ _),by rw[qgq _ _ _ _ (by decide)]; exact h3⟩,k3⟩;rw[qc4 (show KD 52=some (qax 45)from rfl)];unfold qax;dsimp only;rw[Nat.beq_refl,cT,hhead _ h2,oB];dsimp only;rw[hst,oB]
 . refine⟨S,?_,⟨ho,hb,hN,t,h1,.inr h2,h3⟩,Grew.refl _ _⟩
   rw[qc4 (show KD 52=some (qax 45)from rfl)];unfold qax;dsimp only;rw[Nat.beq_refl,cT,hhead _ h2,oB];dsimp only;rw[Nat.beq_refl,Nat.beq_refl,Bool.and_self,cT]
theorem grow_run (m:Nat) (h:Fresh S b N) (n:Nat) (h0:0<n) (hn:n<100000):∃U,(ev E0 KD (m+1)).f 81 [.ptr b 0,.int .i64 (n:Int)] S=some (.ret (.tuple []),U)/\Bd U b [] N/\Grew (fun x=>x=b\/N<=x) S U:=by
 obtain⟨ho,hb,hN,t,h4,h5,h6⟩:=h;have g1:Grew (fun _=>False) S (nw S (.cells 5 1 n false .nil)):=qc9 ho _ _;have on1:=g1.on.trans ho;have hF:=F81_eq (ev E0 KD m) qa1 (.ptr b 0) (.int .i64 (n:Int)) S;have hld:=h4.ld1 ho big2 (by decide) h6;have hl1:=qbj ho hld [];have ag1:=h4.grew (by omega) (fun h=>h) g1;have hl2:=qbj on1 (ag1.ld1 on1 big2 (by decide) h6) [];obtain⟨U1,r1,r2,r3,r4⟩:=qf8 ho (nw S (.cells 5 1 n false .nil)) [] [[],[],[],[⟨b,1,1+1,false⟩],[],[],[],[],[⟨S.next,0,big,true⟩],[],[],[],[⟨b,1,1+1,false⟩],[],[⟨S.next,big-1,big,false⟩],[]];have gU1:=Grew.of_eq r2 r3 (r4.trans on1.symm);have agU:=ag1.grew (by show b<S.next+1; omega) (fun h=>h) gU1;obtain⟨U2,k1,k2,k3,k4⟩:=agU.st1 r4 big2 (by decide) (i:=1) (by decide) (.oslice S.next 0 0 1) rfl rfl rfl
 have hsl:qb4 E0 43 (.oslice S.next 0 n 1) none (some (.int .i64 ((0:Nat):Int))) none ((nw S (.cells 5 1 n false .nil)).lg [])=some (.oslice S.next 0 0 1,(nw S (.cells 5 1 n false .nil)).lg [⟨S.next,big-1,big,false⟩]):=by
  unfold qb4;rw[und53,oB];simp only;rw[show Ev.sizeT E0 5=some 1 by kernel_rfl,oB,show(Nat.beq 1 1&&Nat.blt 0 1)=true from rfl,cT]
  have hsz:qgi ((nw S (.cells 5 1 n false .nil)).lg []) S.next=some (1*n,(nw S (.cells 5 1 n false .nil)).lg [⟨S.next,big-1,big,false⟩]):=by
   unfold qgi;rw[show((nw S (.cells 5 1 n false .nil)).lg []).heap.get S.next=some (.cells 5 1 n false .nil)from by show(nw S _).heap.get _=_; rw[qe9,iP rfl]];dsimp only;rw[blt_true.2 (show 1*n<big by unfold big; omega),cT,qkh]
  rw[hsz,oB];dsimp only;rw[show(1*n-0)/1=n by omega,qd2 .i64 (Nat.zero_le n),oB];dsimp only;rw[blt_true.2 h0,cT]
 refine⟨U2,rq62 ?_,⟨k3.on.trans r4,hb,by have:=g1.next; have:=gU1.next; have:=k3.next; omega,_,_,k2,by rw[qgq _ _ _ _ (by decide)]; exact h5,setS _ _ _,.inr ⟨S.next,n,rfl,?_,by have:=gU1.next; have:=k3.next; show S.next<U2.next; rw[k4,r3]; show S.next<S.next+1; omega,hN⟩⟩,(g1.mono fun _ _ h=>(h:False).elim).trans ((gU1.mono fun _ _ h=>(h:False).elim).trans (k3.mono fun x _ e=>.inl e))⟩
 . refine hF.trans ?_
   rw[nilP,oB,faP1,oB,qb2,hl1,oB];dsimp only;rw[show capP .nilslice (onS (S.lg [⟨b,1,1+1,false⟩]))=some (.int .i64 0,S.lg [])from rfl,oB];dsimp only;rw[show qa4 E0 .mul 3 true false (.int .i64 2) (.int .i64 0)=some (.int .i64 0)from rfl,oB,show qa4 E0 .add 3 false false (.int .i64 0) (.int .i64 (n:Int))=some (.int .i64 (n:Int))from by rw[binV_ii,intsV_add,Int.zero_add,qc0 (by omega) (by omega)],oB,qag,qb2,make_lg _ n (by omega),qbf,oB,faP1,oB];rw[show(S.lg []).next=S.next from rfl,nw_lg ho,qag,qb2,hl2,oB];dsimp only;rw[show lnS .nilslice (onS ((nw S (.cells 5 1 n false .nil)).lg [⟨b,1,1+1,false⟩]))=some (.int .i64 ((0:Nat):Int),(nw S (.cells 5 1 n false .nil)).lg [])from rfl,oB];dsimp only;rw[qag,qb2,hsl,oB];dsimp only;rw[show(S.lg [⟨b,1,1+1,false⟩]).log=[⟨b,1,1+1,false⟩]from rfl,show(S.lg []).log=[]from rfl,show((nw S (.cells 5 1 n false .nil)).lg [⟨S.next,0,big,true⟩]).log=[⟨S.next,0,big,true⟩]from rfl,show((nw S (.cells 5 1 n false .nil)).lg [⟨b,1,1+1,false⟩]).log=[⟨b,1,1+1,false⟩]from rfl,show((nw S (.cells 5 1 n false .nil)).lg []).log=[]from rfl,show((nw S (.cells 5 1 n false .nil)).lg [⟨S.next,big-1,big,false⟩]).log=[⟨S.next,big-1,big,false⟩]from rfl,qbw (pairs62 (by omega) _),qag,qb2,r1,oB,faP1,oB,agU.ld1 r4 big2 (by decide) h6,oB];dsimp only
   rw[show cpP 1 (.oslice S.next 0 0 1) .nilslice U1=some (.int .i64 (.ofNat 0),U1)from rfl,oB,oB,faP1,oB];dsimp only;rw[k1,oB]
 . refine⟨.nil,?_,Nat.zero_le _,by omega,fun i b hb=>by simp at hb⟩
   rw[k3.keep S.next (by rw[r3]; show S.next<S.next+1; omega) (by omega),r2,qe9,iP rfl]
theorem Grow_run (m:Nat) (h:Fresh S b N) (n:Nat) (h0:0<n) (hn:n<100000):∃U v,(ev E0 KD (m+2)).f 53 [.ptr b 0,.int .i64 (n:Int)] S=some (.ret v,U)/\Bd U b [] N/\Grew (fun x=>x=b\/N<=x) S U:=by
 obtain⟨S1,a1,a2,a3⟩:=check_fresh m h;obtain⟨ho,hb,hN,t,h1,h2,h3⟩:=id a2;obtain⟨U,b1,b2,b3⟩:=grow_run m a2 n h0 hn;refine⟨U,.tuple [],rq41 ?_,b2,(a3.mono fun x _ e=>.inl e).trans b3⟩;show F53 (ev E0 KD (m+1)) qa1 (.ptr b 0) (.int .i64 (n:Int)) S=_;have hl:=qbj ho (h1.ld1 ho big2 (by decide) h3) []
 have e0:qa4 E0 .lss 3 false true (.int .i64 (n:Int)) (.int .i64 0)=some (.bool false):=by
  rw[binV_ii,intsV_lss,dF (by omega)]
 rw[F53_eq,a1,callP_ret,e0,oB,ifK_bool,cF,R53_2_eq,nilP,oB,faP1,oB,qb2,hl,oB];dsimp only;rw[show capP .nilslice (onS (S1.lg [⟨b,1,1+1,false⟩]))=some (.int .i64 ((0:Nat):Int),S1.lg [])from rfl,oB,oB,faP1,oB];dsimp only;rw[qag,qb2,hl,oB];dsimp only;rw[show lnS .nilslice (onS (S1.lg [⟨b,1,1+1,false⟩]))=some (.int .i64 ((0:Nat):Int),S1.lg [])from rfl,oB];dsimp only;rw[show qa4 E0 .sub 3 false false (.int .i64 ((0:Nat):Int)) (.int .i64 ((0:Nat):Int))=some (.int .i64 ((0:Nat):Int))from rfl,oB,qff,dT h0,oB,endP_rd (by rfl),qag,qf9 ho,ifK_bool,cT,b1,callP_ret];rfl
end
theorem joi_cons (a:Bs):∀l:List Bs,qit (a::l)=a++l.flatMap fun s=>32::s
 | []=>by simp[qit]
 | b::l=>by
  rw[qit,joi_cons b l]
  . rfl
  . simp
section
variable {S T U:St} {b N:Nat}
def sumL (l:List Bs):Nat:=(l.map List.length).sum
theorem qk5 (a:Bs) (l:List Bs):sumL (a::l)=a.length+sumL l:=by simp[sumL]
theorem addN (c d:Bool) {a k:Nat} (h:a+k<9223372036854775807):qa4 E0 .add 3 c d (.int .i64 (a:Int)) (.int .i64 (k:Int))=some (.int .i64 ((a+k:Nat):Int)):=by
 rw[binV_ii,intsV_add,qc0 (by omega) (by omega)];rfl
theorem L43_spec {self:EV} {M:Nat} (ho:S.on=false) (nk:Ac->St->Rs) (ek:Nat->Ac->St->Rs) (x1:V) {v:V} {l:List Bs} (h:TL S v l) (hl:l.length<1000) :
 ∀(q:List Bs) (i k n:Nat),l.drop i=q->q.length<n->k+sumL q<1000000->
 L18_43 self M nk ek n v x1 (.int .i64 (k:Int)) v (.int .i64 (l.length:Int)) (.int .i64 (i:Int)) S=ek 1 (fr 75 [(0,v),(1,x1),(5,.int .i64 ((k+sumL q:Nat):Int))]) S
 | _,_,_,0,_,hn,_=>by omega
 | [],i,k,n+1,hi,_,_=>by
  rw[L18_43_eq,qff,dF (Nat.not_lt.2 (qbe hi)),oB,ifK_bool,cF];rfl
 | a::q,i,k,n+1,hi,hn,hk=>by
  obtain⟨hlt,hc,hr',hm⟩:=qbv hi;rw[qk5]at hk;have ih:=L43_spec (self:=self) (M:=M) ho nk ek x1 h hl q (i+1) (k+a.length) n hr' (by simpa using hn) (by omega);obtain⟨p,p1,p2⟩:=h.ld ho (show l[i]?=some a by rw[List.getElem?_eq_getElem hlt,hc])
  have e1:qa4 E0 .sub 3 true false (.int .i64 9223372036854775807) (.int .i64 (k:Int))=some (.int .i64 (9223372036854775807-(k:Int))):=by
   rw[binV_ii,intsV_sub,qc0 (by omega) (by omega)]
  have e2:qa4 E0 .gtr 3 false false (.int .i64 (a.length:Int)) (.int .i64 (9223372036854775807-(k:Int)))=some (.bool false):=by
   rw[binV_ii,intsV_gtr,dF (by omega)]
  rw[L18_43_eq,qff,dT hlt,oB,ifK_bool,cT,p1,oB,p2,oB];dsimp only;rw[qab,oB];dsimp only;rw[e1,oB,e2,oB,ifK_bool,cF,qab,oB];dsimp only;rw[addN _ _ (by omega),oB,qds (by omega),oB,ih,qk5,Nat.add_assoc]
theorem L29_spec {m M:Nat} (nk:Ac->St->Rs) (ek:Nat->Ac->St->Rs) {v:V} {l:List Bs} (hl:l.length<1000) :
 ∀(q:List Bs) (i n:Nat) (S:St) (bs:Bs),TL S v l->(∀r e,qcj v=some r->RowAt S r 9 1 e->r<b)->Bd S b bs N->b<N->l.drop i=q->q.length<n->bs.length+sumL q+q.length<90000->
 ∃U,L18_29 (ev E0 KD (m+2)) M nk ek n (sv [32]) (.ptr b 0) v (.int .i64 (l.length:Int)) (.int .i64 (i:Int)) S=ek 3 (fr 75 [(8,.ptr b 0)]) U/\Bd U b (bs++q.flatMap fun s=>32::s) N/\Grew (fun x=>x=b\/N<=x) S U
 | _,_,0,_,_,_,_,_,_,_,hn,_=>by omega
 | [],i,n+1,S,bs,_,_,hB,_,hi,_,_=>by
  refine⟨S,?_,by simpa using hB,Grew.refl _ _⟩;rw[L18_29_eq,qff,dF (Nat.not_lt.2 (qbe hi)),oB,ifK_bool,cF]
 | a::q,i,n+1,S,bs,h,hb,hB,hbN,hi,hn,hk=>by
  obtain⟨hlt,hc,hr',hm⟩:=qbv hi;rw[qk5,List.length_cons]at hk;obtain⟨p,p1,p2⟩:=h.ld hB.on (show l[i]?=some a by rw[List.getElem?_eq_getElem hlt,hc]);obtain⟨S1,v1,a1,a2,a3⟩:=str_run (K:=KD) rfl rfl m hB [32] (by show bs.length+1<_; omega);obtain⟨S2,v2,b1,b2,b3⟩:=str_run (K:=KD) rfl rfl m a2 a (by rw[lAq]; show bs.length+1+_<_; omega);have g:=a3.trans b3;have hw:∀r e,qcj v=some r->RowAt S r 9 1 e->¬(r=b\/N<=r):=fun r e h1 h2=>by have:=hb r e h1 h2; omega
  have hT:=h.grew hw g
  obtain⟨U,d1,d2,d3⟩:=L29_spec (m:=m) (M:=M) nk ek hl q (i+1) n S2 _ hT (fun r e h1 h2=>by
   rcases h with⟨hl0,rfl|rfl|⟨r',c,rfl⟩⟩|⟨r',off,L,q1,q2,q3,q4,q5⟩
   . cases h1
   . cases h1
   . rw[hl0]at hlt; exact absurd hlt (Nat.not_lt_zero _)
   . have:r=r':=by rcases q5 with rfl|⟨c,rfl⟩<;>(cases h1; rfl)
     subst this
     exact hb r _ h1 q1) b2 hbN hr' (by simpa using hn) (by rw[lAq,lAq]; show bs.length+1+_+_+_<_; omega)
  refine⟨U,?_,by rw[List.flatMap_cons]; simpa using d2,g.trans d3⟩;rw[L18_29_eq,qff,dT hlt,oB,ifK_bool,cT,p1,oB,p2,oB];dsimp only;rw[a1,callP_ret,b1,callP_ret,qds (by omega),oB,d1]
theorem slice_tail (r k:Nat) (hk:1<=k):qb4 E0 22 (.slice r 0 k k) (some (.int .i64 1)) none none S=some (.slice r 1 (k-1) (k-1),S):=by
 have hu:und E0 22=some (.slice 9):=by kernel_rfl
 unfold qb4;rw[hu,oB];simp only;rw[show V.int .i64 1=.int .i64 ((1:Nat):Int)from rfl,qf1 .i64 hk,oB,show Ev.sizeT E0 9=some 1 by kernel_rfl,oB];rfl
theorem quoN {k:Nat} (hk:k=2\/k=3):∃q:Int,1<q/\qa4 E0 .quo 3 true false (.int .i64 9223372036854775807) (.int .i64 ((k-1:Nat):Int))=some (.int .i64 q):=by
 rcases hk with rfl|rfl
 . exact⟨9223372036854775807,by omega,rfl⟩
 . exact⟨4611686018427387903,by omega,rfl⟩
theorem f18_many (ho:S.on=false) (m:Nat) {r:Nat} {l:List Bs} (hk:l.length=2\/l.length=3) (hr:RowAt S r 9 1 (qgv l)) (hlt:r<S.next) (hsum:sumL l<80000):∃U,(ev E0 KD (m+3)).f 18 [.slice r 0 l.length l.length,sv [32]] S=some (.ret (sv (qit l)),U)/\Grew (fun _=>False) S U:=by
 have hTL:TL S (.slice r 0 l.length l.length) l:=TL.sli hr hlt;obtain⟨q,hq1,hq2⟩:=quoN hk;have hF:=F18_eq (ev E0 KD (m+2)) qa1 (.slice r 0 l.length l.length) (sv [32]) S;have el:lnS (.slice r 0 l.length l.length) S=some (.int .i64 (l.length:Int),S):=hTL.len S;have e0:qa4 E0 .eql 3 false true (.int .i64 (l.length:Int)) (.int .i64 0)=some (.bool false):=by rw[binV_ii,intsV_eql,dF (by omega)]
 have e1:qa4 E0 .eql 3 false true (.int .i64 (l.length:Int)) (.int .i64 1)=some (.bool false):=by rw[binV_ii,intsV_eql,dF (by omega)]
 have e2:qa4 E0 .gtr 3 false true (.int .i64 (([32]:Bs).length:Int)) (.int .i64 0)=some (.bool true):=rfl
 have e3:qa4 E0 .geq 3 false false (.int .i64 (([32]:Bs).length:Int)) (.int .i64 q)=some (.bool false):=by
  rw[binV_ii,intsV_geq,dF (by show ¬q<=1; omega)]
 have e4:qa4 E0 .mul 3 false false (.int .i64 (([32]:Bs).length:Int)) (.int .i64 ((l.length-1:Nat):Int))=some (.int .i64 ((l.length-1:Nat):Int)):=by
  rw[binV_ii,intsV_mul,show(([32]:Bs).length:Int)=1 from rfl,Int.one_mul,qc0 (by omega) (by omega)]
 have e5:qa4 E0 .add 3 false false (.int .i64 0) (.int .i64 ((l.length-1:Nat):Int))=some (.int .i64 ((l.length-1:Nat):Int)):=by
  rw[binV_ii,intsV_add,Int.zero_add,qc0 (by omega) (by omega)]
 rw[el,oB]at hF;dsimp only at hF;rw[e0,oB,ifK_bool,cF,e1,oB,ifK_bool,cF,qab,oB]at hF;dsimp only at hF;rw[e2,oB,ifK_bool,cT,qab,oB]at hF;dsimp only at hF;rw[el,oB]at hF;dsimp only at hF;rw[predN (by omega) (by omega),oB,hq2,oB,e3,oB,ifK_bool,cF,qab,oB]at hF;dsimp only at hF;rw[el,oB]at hF;dsimp only at hF;rw[predN (by omega) (by omega),oB,e4,oB,e5,oB,R18_13_eq,el,oB]at hF;dsimp only at hF;rw[show V.int .i64 0=.int .i64 ((0:Nat):Int)from rfl,L43_spec ho _ _ (sv [32]) hTL (by omega) l 0 (l.length-1) qa1 rfl (by unfold qa1; omega) (by omega),exB_same,R18_14_eq,oB,qe2]at hF;have hfr:=fresh_new ho;obtain⟨a1,a2,a3⟩:=qbt ho 45 2 (Tr.ofListFrom .nil [.nilptr,.nilslice] 0);generalize (nwP 45 2 (Tr.ofListFrom .nil [.nilptr,.nilslice] 0) S).2=S1 at hfr a1 a2 a3 hF;obtain⟨S2,v2,b1,b2,b3⟩:=Grow_run m hfr (l.length-1+sumL l) (by omega) (by omega);rw[b1,callP_ret]at hF;have hr2:RowAt S2 r 9 1 (qgv l):=(hr.grew hlt (fun h=>h) a2).grew (by omega) (by omega) b3;have n2:=b3.next
 obtain⟨w,ws,rfl⟩:∃w ws,l=w::ws:=by
  cases l with
  | nil=>simp at hk
  | cons w ws=>exact⟨w,ws,rfl⟩
 have hT2:TL S2 (.slice r 0 (w::ws).length (w::ws).length) (w::ws):=TL.sli hr2 (by omega);obtain⟨p,p1,p2⟩:=w_ix hT2 b2.on (i:=0) (a:=w) rfl;rw[show V.int .i64 0=.int .i64 ((0:Nat):Int)from rfl,p1,oB,p2,oB]at hF;dsimp only at hF;rw[qk5]at hsum;obtain⟨S3,v3,c1,c2,c3⟩:=str_run (K:=KD) rfl rfl m b2 w (by show 0+w.length<_; omega);rw[c1,callP_ret,slice_tail r _ (by simp),oB]at hF;dsimp only at hF;have hr3:RowAt S3 r 9 1 (qgv (w::ws)):=hr2.grew (by omega) (by omega) c3;have n3:=c3.next
 have hT3:TL S3 (.slice r 1 ((w::ws).length-1) ((w::ws).length-1)) ws:=.inr ⟨r,1,w::ws,hr3,by omega,by simp only[List.length_cons]; omega,by simp,.inr ⟨(w::ws).length-1,rfl⟩⟩;rw[hT3.len,oB]at hF;dsimp only at hF;obtain⟨S4,d1,d2,d3⟩:=L29_spec (m:=m) (M:=qa1) (R18_22 (ev E0 KD (m+2)) qa1 (fun a s=>qad [4] a fun a=>qad [4] a fun a=>qb5 E0 (ev E0 KD (m+2)) Tryz.f18 a s) qak) (exB 3 (R18_22 (ev E0 KD (m+2)) qa1 (fun a s=>qad [4] a fun a=>qad [4] a fun a=>qb5 E0 (ev E0 KD (m+2)) Tryz.f18 a s) qak) qak) (l:=ws) (by simp at hk; omega) ws 0 qa1 S3 ([]++w) hT3 (fun r' e h1 h2=>by cases h1; omega) c2 (by omega) rfl (by simp at hk; unfold qa1; omega) (by simp at hk ⊢; omega)
 have hne:([]++w++ws.flatMap fun s=>32::s)≠[]:=fun e=>by
  cases ws with
  | nil=>simp at hk
  | cons v ws=>simp at e
 obtain⟨S5,e6,e7⟩:=qk6 (K:=KD) rfl (m+1) d2 hne;rw[d1,exB_same,R18_22_eq,e6,callP_ret]at hF;refine⟨S5,rq18 (hF.trans ?_),Grew.fresh a2 (N:=S.next) (lR _) (((b3.mono fun x _ hx=>by omega).trans (c3.mono fun x _ hx=>by omega)).trans ((d3.mono fun x _ hx=>by omega).trans (e7.mono fun x _ hx=>by omega)))⟩;rw[joi_cons,List.nil_append]
theorem f18_one (ho:S.on=false) (m:Nat) {r:Nat} {a:Bs} (hr:RowAt S r 9 1 (qgv [a])) (hlt:r<S.next):(ev E0 KD (m+3)).f 18 [.slice r 0 1 1,sv [32]] S=some (.ret (sv a),S):=rq18 (by
 show F18 (ev E0 KD (m+2)) qa1 (.slice r 0 1 1) (sv [32]) S=_;have hTL:TL S (.slice r 0 1 1) [a]:=TL.sli hr hlt;obtain⟨p,p1,p2⟩:=w_ix hTL ho (i:=0) (a:=a) rfl;rw[F18_eq,hTL.len,oB];dsimp only
 rw[show qa4 E0 .eql 3 false true (.int .i64 (([a].length:Nat):Int)) (.int .i64 0)=some (.bool false)from rfl,oB,ifK_bool,cF,show qa4 E0 .eql 3 false true (.int .i64 (([a].length:Nat):Int)) (.int .i64 1)=some (.bool true)from rfl,oB,ifK_bool,cT,show V.int .i64 0=.int .i64 ((0:Nat):Int)from rfl,p1,oB,p2,oB])
theorem qlt (m:Nat) {l:List Bs} {r b N:Nat} {bs:Bs} (hB:Bd S b bs N) (hk:l.length=1\/l.length=2\/l.length=3) (hr:RowAt S r 9 1 (qgv l)) (hlt:r<S.next) (hsum:sumL l<30000) (hbs:bs.length<50000) :
 ∃U,(ev E0 KD (m+4)).f 16 [.slice r 0 l.length l.length,.ptr b 0] S=some (.ret (.tuple []),U)/\Bd U b (bs++(qit l++[10])) N/\Grew (fun x=>x=b\/N<=x) S U:=by
 have hj:∃U,(ev E0 KD (m+3)).f 18 [.slice r 0 l.length l.length,sv [32]] S=some (.ret (sv (qit l)),U)/\Grew (fun _=>False) S U:=by
  rcases hk with hk|hk
  . match l,hk with
    | [a],_=>exact⟨S,f18_one hB.on m hr hlt,Grew.refl _ _⟩
  . exact f18_many hB.on m hk hr hlt (by omega)
 obtain⟨S1,a1,a2⟩:=hj
 have hjl:(qit l).length<=sumL l+3:=by
  match l,hk with
  | [],hk=>simp at hk
  | [a],_=>simp[qit,sumL]
  | [a,c],_=>simp[qit,sumL]; omega
  | [a,c,e],_=>simp[qit,sumL]; omega
  | _::_::_::_::_,hk=>simp at hk
 have hB1:=hB.grew a2 (fun h=>h) (fun _ _ _ h=>h);obtain⟨U,v,b1,b2,b3⟩:=str_run (K:=KD) rfl rfl (m+1) hB1 (qit l++[10]) (by rw[lAq]; show bs.length+(_+1)<_; omega);refine⟨U,rq16 ?_,b2,(a2.mono fun _ _ h=>(h:False).elim).trans b3⟩;show F16 (ev E0 KD (m+3)) qa1 (.slice r 0 l.length l.length) (.ptr b 0) S=_;rw[F16_eq,a1,callP_ret,addStr _ _ (by show _+1<_; omega),oB,b1,callP_ret]
end
theorem kfVal_lg (args:List V):Lg.LocP fun s=>kfVal.run args s:=by
 unfold kfVal;dsimp only;split
 . split
   . split
     . exact Lg.LocP.ret _
     . refine Lg.Loc.bind (Lg.loc_ld _ _) fun v=>?_
       dsimp only;split
       . exact Lg.LocP.ret _
       . exact Lg.Loc.none
   . exact Lg.Loc.none
 . exact Lg.Loc.none
theorem lgD:Lg.KnLoc KD:=(((((((((((Lg.knLoc_nil).add 52 fun _=>kfCopyCheck_lg _ _).add 20 fun _=>kfString_lg _ _).add 35 fun _=>Lg.specKF_lg _).add 44 fun _=>Lg.specKF_lg _).add 90 fun _=>Lg.specKF_lg _).add 19 fun _=>Lg.specKF_lg _).add 10 fun _=>Lg.specKF_lg _).add 14 fun _=>Lg.specKF_lg _).add 12 fun _=>Lg.specKF_lg _).add 23 fun _=>Lg.specKF_lg _).add 62 kfVal_lg
theorem kfVal_fz {F:Fz.Fz} (args:List V):Fz.LocP F fun s=>kfVal.run args s:=by
 unfold kfVal;dsimp only;split
 . split
   . split
     . exact Fz.LocP.ret _
     . refine Fz.Loc.bind (Fz.loc_ld _ _) fun v=>?_
       dsimp only;split
       . exact Fz.LocP.ret _
       . exact Fz.Loc.none
   . exact Fz.Loc.none
 . exact Fz.Loc.none
theorem fzD {F:Fz.Fz}:Fz.KnLoc F KD:=(((((((((((Fz.knLoc_nil).add 52 fun _=>kfCopyCheck_fz _ _).add 20 fun _=>kfString_fz _ _).add 35 fun _=>Fz.specKF_fz _).add 44 fun _=>Fz.specKF_fz _).add 90 fun _=>Fz.specKF_fz _).add 19 fun _=>Fz.specKF_fz _).add 10 fun _=>Fz.specKF_fz _).add 14 fun _=>Fz.specKF_fz _).add 12 fun _=>Fz.specKF_fz _).add 23 fun _=>Fz.specKF_fz _).add 62 fun a=>kfVal_fz a
theorem body16:E0.ext.get 16=none/\qat E0 16=true:=⟨by kernel_rfl,by kernel_rfl⟩
theorem path_len {s:Bs} (h:qai s=true):s.length<=60:=by
 unfold qai at h;simp only[bA]at h;have h1:=h.2.2;unfold qcr chkN at h1;split at h1
 . cases h1
 . rename_i h2
   rw[List.length_drop]at h2;omega
theorem var_len {s:Bs} (h:qdt s=true):s.length<=56:=by
 unfold qdt at h;simp only[bA,decide_eq_true_eq]at h;exact h.2.1.1.2
theorem hex_len (v:Bs):(qn7 v).length<=2*v.length+1:=by
 unfold qn7;split
 . simp
 . have:∀v:Bs,(v.flatMap fun c=>[qlf (c.toNat/16),qlf (c.toNat%16)]).length=2*v.length:=fun v=>by
    induction v with
    | nil=>rfl
    | cons c v ih=>rw[List.flatMap_cons,lAq,ih]; simp; omega
   rw[this]; omega
section
variable {S T U:St} {b N q0 N1:Nat} {d:DD} {vI vE:V} {Tt:Tr V}
theorem in_line (p:Bs):qit [wIn,p]++[10]=inL p:=by unfold inL; simp[qit]
theorem env_line (p:Bs×Bs):qit [wEnv,p.1,qn7 p.2]++[10]=envL p:=by unfold envL; simp[qit]
theorem L53_spec {m M:Nat} (nk:Ac->St->Rs) (ek:Nat->Ac->St->Rs) (v1:V) {l:List Bs} (hl:l.length<=1000) :
 ∀(q:List Bs) (i n:Nat) (S:St) (bs:Bs),TLo S vI l N1->(∀x,qcj vI=some x->x<b)->Bd S b bs N->l.drop i=q->q.length<n->(∀p∈l,p.length<=60)->bs.length+100*q.length<=30000->
 ∃U,L6_53 (ev E0 KD (m+4)) M nk ek n v1 (.ptr b 0) (.fn (.func 16) [] [.ptr b 0]) vI (.int .i64 (l.length:Int)) (.int .i64 (i:Int)) S=ek 0 (fr 54 [(1,v1),(4,.ptr b 0),(5,.fn (.func 16) [] [.ptr b 0])]) U/\Bd U b (bs++q.flatMap inL) N/\Grew (fun x=>x=b\/N<=x) S U
 | _,_,0,_,_,_,_,_,_,hn,_,_=>by omega
 | [],i,n+1,S,bs,_,_,hB,hi,_,_,_=>by
  refine⟨S,?_,by simpa using hB,Grew.refl _ _⟩;rw[L6_53_eq,qff,dF (Nat.not_lt.2 (qbe hi)),oB,ifK_bool,cF]
 | a::q,i,n+1,S,bs,h,hb,hB,hi,hn,hp,hk=>by
  obtain⟨hlt,hc,hr',hm⟩:=qbv hi;rw[List.length_cons]at hk;have hbN:=hB.2.1;obtain⟨p,p1,p2⟩:=h.tl.ld hB.on (show l[i]?=some a by rw[List.getElem?_eq_getElem hlt,hc])
  obtain⟨S1,e1,e2,e3,e4⟩:=qdc hB.on 9 (Ev.one (sv [])) [sv wIn,sv a] (fun v hv=>by
   simp only[List.mem_cons,List.not_mem_nil,or_false]at hv
   rcases hv with rfl|rfl<;>exact qep _) (by show 2<big; unfold big; decide)
  have hB1:=hB.grew e3 (fun h=>h) (fun _ _ _ h=>h);have hla:=hp a hm;obtain⟨S2,a1,a2,a3⟩:=qlt m (l:=[wIn,a]) hB1 (.inr (.inl rfl)) e2 (by omega) (by simp[sumL,wIn]; omega) (by omega);have g:Grew (fun x=>x=b\/N<=x) S S2:=(e3.mono fun _ _ h=>(h:False).elim).trans a3;rw[in_line]at a2;have hT:=h.grewW g fun x hx hw=>by have:=hb x hx; omega
  obtain⟨U,d1,d2,d3⟩:=L53_spec (m:=m) (M:=M) nk ek v1 hl q (i+1) n S2 _ hT hb a2 hr' (by simpa using hn) hp (by rw[lAq]; simp[inL,wIn]; omega);refine⟨U,?_,by rw[List.flatMap_cons]; simpa using d2,g.trans d3⟩;rw[L6_53_eq,qff,dT hlt,oB,ifK_bool,cT,p1,oB,p2,oB];dsimp only;rw[show bsP 9 1 2 (Ev.one (sv [])) [(0,(sv [105,110])),(1,sv a)] S=some (.slice S.next 0 2 2,S1)from e1 none,oB];dsimp only;rw[qb6 body16.1 body16.2];show(qaa ((ev E0 KD (m+4)).f 16 [.slice S.next 0 2 2,.ptr b 0] S1) _)=_;rw[show(ev E0 KD (m+4)).f 16 [.slice S.next 0 2 2,.ptr b 0] S1=_ from a1,callP_ret,qds (by omega),oB,d1]
theorem pairs6 {x:Nat} (l l2:List LE):qaq [[],[],[⟨x,0,0+1,false⟩],[],[⟨x,1,1+1,false⟩],[],l,l2] [(2,[4,5])]=true:=by
 have h1:qbu [⟨x,0,0+1,false⟩] [⟨x,1,1+1,false⟩]=false:=qc3 (by simp);have h2:qbu [⟨x,0,0+1,false⟩] []=false:=qc3 (by simp);show(bif (bif qbu [⟨x,0,0+1,false⟩] [⟨x,1,1+1,false⟩]then true else(bif qbu [⟨x,0,0+1,false⟩] []then true else false))then false else true)=true;rw[h1,h2];rfl
set_option maxRecDepth 100000 in
theorem L32_spec {m M:Nat} (nk:Ac->St->Rs) (ek:Nat->Ac->St->Rs) (v1:V) {l:List (Bs×Bs)} (hl:l.length<=1000) :
 ∀(q:List (Bs×Bs)) (i n:Nat) (S:St) (bs:Bs),VLo S vE l N1->(∀x,qcj vE=some x->x<b)->Bd S b bs N->l.drop i=q->q.length<n->(∀p∈l,p.1.length<=56/\p.2.length<=200)->bs.length+1000*q.length<=49000->
 ∃U,L6_32 (ev E0 KD (m+4)) M nk ek n v1 (.ptr b 0) (.fn (.func 16) [] [.ptr b 0]) vE (.int .i64 (l.length:Int)) (.int .i64 (i:Int)) S=ek 2 (fr 54 [(1,v1),(4,.ptr b 0),(5,.fn (.func 16) [] [.ptr b 0])]) U/\Bd U b (bs++q.flatMap envL) N/\Grew (fun x=>x=b\/N<=x) S U
 | _,_,0,_,_,_,_,_,_,hn,_,_=>by omega
 | [],i,n+1,S,bs,_,_,hB,hi,_,_,_=>by
  refine⟨S,?_,by simpa using hB,Grew.refl _ _⟩;rw[L6_32_eq,qff,dF (Nat.not_lt.2 (qbe hi)),oB,ifK_bool,cF]
 | p::q,i,n+1,S,bs,h,hb,hB,hi,hn,hp,hk=>by
  obtain⟨hlt,hc,hr',hm⟩:=qbv hi;rw[List.length_cons]at hk;have hbN:=hB.2.1;have hNS:=hB.2.2.1;have ho:=hB.on;obtain⟨y,y1,y2⟩:=h.ldA ho (show l[i]?=some p by rw[List.getElem?_eq_getElem hlt,hc]);obtain⟨a1,a2,a3⟩:=qbt ho 41 2 (Tr.ofListFrom .nil [(sv []),(sv [])] 0);have on1:=a2.on.trans ho;obtain⟨S2,b1,b2,b3,b4⟩:=a1.stA on1 big2 (qg4 p);have on2:=b3.on.trans on1;have g2:Grew (fun _=>False) S S2:=a2.own (lR _) b3;have hB2:=hB.grew g2 (fun h=>h) (fun _ _ _ h=>h);obtain⟨l1,l2⟩:=hp p hm;have hx:=hex_len p.2;have r1:=qbj on2 (b2.ld1 on2 big2 (show 0<2 by decide) (show(qg4 p).get 0=some (sv p.1) by unfold qg4; rw[Tr.get_ofList]; rfl)) [];have r2:=qbj on2 (b2.ld1 on2 big2 (show 1<2 by decide) (show(qg4 p).get 1=some (sv p.2) by unfold qg4; rw[Tr.get_ofList]; rfl)) []
  obtain⟨S3,e1,e2,e3,e4⟩:=qdc on2 9 (Ev.one (sv [])) [sv wEnv,sv p.1,sv (qn7 p.2)] (fun v hv=>by
   simp only[List.mem_cons,List.not_mem_nil,or_false]at hv
   rcases hv with rfl|rfl|rfl<;>exact qep _) (by show 3<big; unfold big; decide)
  have hB3:=hB2.grew e3 (fun h=>h) (fun _ _ _ h=>h);obtain⟨S4,c1,c2,c3⟩:=qlt m (l:=[wEnv,p.1,qn7 p.2]) hB3 (.inr (.inr rfl)) e2 (by omega) (by simp[sumL,wEnv]; omega) (by omega);have on4:=c2.on
  have hcall:qc2 E0 (ev E0 KD (m+4)) (.fn (.func 16) [] [.ptr b 0]) [.slice S2.next 0 3 3] S3=some (.ret (.tuple []),S4):=by
   rw[qb6 body16.1 body16.2];exact c1
  obtain⟨l',hcall'⟩:=Lg.callK_lg lgD body16.1 hcall [];obtain⟨S5,z1,z2,z3,z4⟩:=qf8 on2 S4 l' [[],[],[⟨S.next,0,0+1,false⟩],[],[⟨S.next,1,1+1,false⟩],[],[⟨S2.next,0,big,true⟩],l'];have g5:=Grew.of_eq z2 z3 (z4.trans on4.symm);have hB5:=c2.grew g5 (fun h=>h) (fun _ _ _ h=>h);rw[env_line]at hB5;have g:Grew (fun x=>x=b\/N<=x) S S5:=(g2.mono fun _ _ h=>(h:False).elim).trans ((e3.mono fun _ _ h=>(h:False).elim).trans (c3.trans (g5.mono fun _ _ h=>(h:False).elim)));have hE5:=h.grew g fun x hx hw=>by have:=hb x hx; omega
  obtain⟨U,d1,d2,d3⟩:=L32_spec (m:=m) (M:=M) nk ek v1 hl q (i+1) n S5 _ hE5 hb hB5 hr' (by simpa using hn) hp (by rw[lAq]; simp[envL,wEnv]; omega);refine⟨U,?_,by rw[List.flatMap_cons]; simpa using d2,g.trans d3⟩;rw[L6_32_eq,qff,dT hlt,oB,ifK_bool,cT,y1,oB,y2,oB];dsimp only;rw[oB,qe2,b1,oB];dsimp only;rw[show faP 0 false 1 (.ptr S.next 0)=some (.ptr S.next 0)from rfl,oB,qb2,r1,oB];dsimp only;rw[show faP 1 false 1 (.ptr S.next 0)=some (.ptr S.next 1)from rfl,oB,qag,qb2,r2,oB];dsimp only;rw[qag,qb2,show ev E0 KD (m+4)=ev E0 KD (m+3+1)from rfl,hex_k (m+3) p.2 (by omega),qbf];have e1':bsP 9 1 3 (Ev.one (sv [])) [(0,sv [101,110,118]),(1,sv p.1),(2,sv (qn7 p.2))] (S2.lg [])=some (.slice S2.next 0 3 3,S3.lg [⟨S2.next,0,big,true⟩]):=e1 (some []);rw[qag,qb2,e1',oB];dsimp only;rw[qag,qb2,show ev E0 KD (m+3+1)=ev E0 KD (m+4)from rfl,hcall',qbf];rw[show(S2.lg [⟨S.next,0,0+1,false⟩]).log=[⟨S.next,0,0+1,false⟩]from rfl,show(S2.lg [⟨S.next,1,1+1,false⟩]).log=[⟨S.next,1,1+1,false⟩]from rfl,show(S2.lg []).log=[]from rfl,show(S3.lg [⟨S2.next,0,big,true⟩]).log=[⟨S2.next,0,big,true⟩]from rfl,show(S4.lg l').log=l' from rfl,qbw (pairs6 _ _),z1,qds (by omega),oB,d1]
end
section
variable {S T U:St} {b N q0 N1:Nat} {d:DD} {vI vE:V} {Tt:Tr V}
theorem told_on (m:Nat) {bs:Bs} (h:Bd S b bs N) (h0:bs≠[]) {q:Nat} (hq:AgAt S q 25 4 Tt) (hqb:q<b):∃U L,(ev E0 KD (m+1)).f 20 [.ptr b 0] (S.lg [])=some (.ret (sv bs),U.lg L)/\(∀e∈L,e.w=false\/e.b≠q)/\Grew (fun x=>N<=x) S U:=by
 obtain⟨U,a1,a2⟩:=qk6 (K:=KD) rfl m h h0;obtain⟨c,c1,c2⟩:=hq;have hbN:=h.2.1; have hNS:=h.2.2.1;have gi:Grew (fun x=>x=q) S (icy S q 25 4 1 c):=qcu _ _;have hI:Bd (icy S q 25 4 1 c) b bs N:=h.grew gi (by omega) (fun x h1 h2 e=>by omega);obtain⟨U',k1,k2⟩:=qk6 (K:=KD) rfl m hI h0;obtain⟨L,q1,q2⟩:=Fz.ev_log fzD lgD (icy_same c1 (by omega)) k1 a1;exact⟨U,L,q1,q2,a2⟩
theorem may_all (h:qft qcr qai qdt d=true):d.ins.length<=8/\d.env.length<=16/\d.nm.length<=20/\(∀p∈d.ins,p.length<=60)/\(∀p∈d.env,p.1.length<=56/\p.2.length<=200)/\d.scr.length<=4000:=by
 unfold qft at h;simp only[bA,decide_eq_true_eq,List.all_eq_true]at h;obtain⟨⟨⟨⟨⟨h1,h2⟩,h3⟩,h4⟩,h5⟩,h6⟩:=h;refine⟨h2.1,h2.2,?_,fun p hp=>path_len (h3 p hp),fun p hp=>⟨var_len (h5 p hp).1,(h5 p hp).2⟩,h6⟩;unfold qcr chkN at h1;split at h1
 . cases h1
 . omega
set_option maxRecDepth 100000 in
theorem qnu (h:Dx S N Tt d vI vE) (m:Nat):∃U,(ev E0 KD (m+12)).f 6 [.agg 4 Tt] S=some (.ret (.tuple (if qft qcr qai qdt d=true then [sv (qge d),.int .i64 0]else [sv [],.int .i64 2])),U)/\Grew (fun _=>False) S U:=by
 have ho:=h.on;obtain⟨a1,a2,a3⟩:=qbt ho 25 4 Tt;have on1:=a2.on.trans ho;have hF:=F6_eq (ev E0 KD (m+11)) qa1 (.agg 4 Tt) S;rw[show qle 25 (.agg 4 Tt) S=some (.ptr S.next 0,(nwP 25 4 Tt S).2)from rfl,oB]at hF;dsimp only at hF;generalize (nwP 25 4 Tt S).2=S1 at a1 a2 a3 on1 hF;rw[a1.ldA on1 qcx,oB]at hF;dsimp only at hF;have h1:Dx S1 N Tt d vI vE:=⟨on1,h.t,h.ins.grew a2,h.env.grew a2 fun _ _ h=>h,h.li,h.le,h.ln,h.lp,h.lv,h.lw,h.ls⟩
 obtain⟨S2,b1,b2⟩:=f15_run h1 m;have on2:=b2.on.trans on1;rw[b1,callP_ret,unV_not,oB,ifK_bool]at hF;cases hm:qft qcr qai qdt d with
 | false=>
  rw[hm]at hF;exact⟨S2,rq6 hF,a2.trans b2⟩
 | true=>
  rw[hm,Bool.not_true,cF]at hF;obtain⟨m1,m2,m3,m4,m5,m6⟩:=may_all hm;have n2:=b2.next
  have hB3:=bd_new on2;obtain⟨_,g3,n3⟩:=qbt on2 45 2 (Tr.ofListFrom .nil [.nilptr,.nilslice] 0);rw[oB,qe2]at hF;generalize (nwP 45 2 (Tr.ofListFrom .nil [.nilptr,.nilslice] 0) S2).2=S3 at hB3 g3 n3 hF;have ag3:AgAt S3 S.next 25 4 Tt:=(a1.grew (by omega) (fun h=>h) b2).grew (by omega) (fun h=>h) g3
  rw[show faP 0 false 1 (.ptr S.next 0)=some (.ptr S.next 0)from rfl,oB,ag3.ld1 hB3.on qcx (by decide) h.t.nm,oB]at hF;dsimp only at hF
  obtain⟨S4,e1,e2,e3,e4⟩:=qdc hB3.on 9 (Ev.one (sv [])) [sv wDrv,sv d.nm] (fun v hv=>by
   simp only[List.mem_cons,List.not_mem_nil,or_false]at hv
   rcases hv with rfl|rfl<;>exact qep _) (by show 2<big; unfold big; decide)
  have hB4:=hB3.grew e3 (fun h=>h) (fun _ _ _ h=>h);obtain⟨S5,c1,c2,c3⟩:=qlt (m+7) (l:=[wDrv,d.nm]) hB4 (.inr (.inl rfl)) e2 (by omega) (by simp[sumL,wDrv]; omega) (by simp);rw[show bsP 9 1 2 (Ev.one (sv [])) [(0,(sv [100,114,118])),(1,sv d.nm)] S3=some (.slice S3.next 0 2 2,S4)from e1 none,oB]at hF;dsimp only at hF
  have hc1:qc2 E0 (ev E0 KD (m+11)) (.fn (.func 16) [] [.ptr S2.next 0]) [.slice S3.next 0 2 2] S4=some (.ret (.tuple []),S5):=by
   rw[qb6 body16.1 body16.2];exact c1
  have gb:Grew (fun x=>S2.next<=x) S3 S5:=(e3.mono fun _ _ h=>(h:False).elim).trans (c3.mono fun x _ hx=>by omega);have n5:=gb.next
  have g05:Grew (fun _=>False) S S5:=Grew.fresh ((a2.trans b2).trans g3) (N:=S2.next) (by omega) gb;have ag5:AgAt S5 S.next 25 4 Tt:=ag3.grew (by omega) (by omega) gb
  rw[hc1,callP_ret,show faP 1 false 1 (.ptr S.next 0)=some (.ptr S.next 1)from rfl,oB,ag5.ld1 c2.on qcx (by decide) h.t.ins,oB]at hF;dsimp only at hF;have hI5:=h.ins.grew g05;have hE5:=h.env.grew g05 fun _ _ h=>h;rw[hI5.tl.len,oB]at hF;dsimp only at hF
  have hIb:∀x,qcj vI=some x->x<S2.next:=fun x hx=>by
   rcases h.ins with⟨_,rfl⟩|⟨r,rfl,_,h3,_⟩
   . cases hx
   . cases hx; omega
  have hEb:∀x,qcj vE=some x->x<S2.next:=fun x hx=>by have:=h.env_lt x hx; omega
  obtain⟨S6,d1,d2,d3⟩:=L53_spec (m:=m+7) (M:=qa1) (N:=S2.next+1) (b:=S2.next) (R6_16 (ev E0 KD (m+11)) qa1 (qb5 E0 (ev E0 KD (m+11)) Tryz.f6) qak) (exB 0 (R6_16 (ev E0 KD (m+11)) qa1 (qb5 E0 (ev E0 KD (m+11)) Tryz.f6) qak) qak) (.ptr S.next 0) h.li d.ins 0 qa1 S5 _ hI5 hIb c2 rfl (by have:=h.li; unfold qa1; omega) m4 (by simp[qit,wDrv]; omega);rw[show V.int .i64 0=.int .i64 ((0:Nat):Int)from rfl,show ev E0 KD (m+11)=ev E0 KD (m+7+4)from rfl,d1,exB_same,R6_16_eq]at hF;have gb6:Grew (fun x=>S2.next<=x) S5 S6:=d3.mono fun x _ hx=>by omega
  have n6:=gb6.next
  have ag6:AgAt S6 S.next 25 4 Tt:=ag5.grew (by omega) (by omega) gb6
  have hE6:=hE5.grew gb6 fun x hx hw=>by have:=hEb x hx; omega
  rw[show faP 2 false 1 (.ptr S.next 0)=some (.ptr S.next 2)from rfl,oB,ag6.ld1 d2.on qcx (by decide) h.t.env,oB]at hF;dsimp only at hF;rw[hE6.len,oB]at hF;dsimp only at hF
  have hfl:(d.ins.flatMap inL).length<=70*d.ins.length:=by
   have:∀l:List Bs,(∀p∈l,p.length<=60)->(l.flatMap inL).length<=70*l.length:=fun l hl=>by
    induction l with
    | nil=>simp
    | cons a l ih=>
     have h1:=ih fun p hp=>hl p (mO _ hp);have h2:=hl a (List.mem_cons_self ..);rw[List.flatMap_cons,lAq,List.length_cons];have:(inL a).length=a.length+4:=by simp[inL,wIn]
     omega
   exact this d.ins m4
  have hfe:(d.env.flatMap envL).length<=700*d.env.length:=by
   have:∀l:List (Bs×Bs),(∀p∈l,p.1.length<=56/\p.2.length<=200)->(l.flatMap envL).length<=700*l.length:=fun l hl=>by
    induction l with
    | nil=>simp
    | cons a l ih=>
     have h1:=ih fun p hp=>hl p (mO _ hp);have h2:=hl a (List.mem_cons_self ..);have h3:=hex_len a.2;rw[List.flatMap_cons,lAq,List.length_cons];have:(envL a).length=a.1.length+(qn7 a.2).length+6:=by simp[envL,wEnv]; omega
     omega
   exact this d.env m5
  have hjd:(qit [wDrv,d.nm]).length<=30:=by simp[qit,wDrv]; omega
  obtain⟨S7,f1,f2,f3⟩:=L32_spec (m:=m+7) (M:=qa1) (N:=S2.next+1) (b:=S2.next) (R6_17 (ev E0 KD (m+7+4)) qa1 (fun a s=>qad [2,3] a fun a=>qb5 E0 (ev E0 KD (m+7+4)) Tryz.f6 a s) qak) (exB 2 (R6_17 (ev E0 KD (m+7+4)) qa1 (fun a s=>qad [2,3] a fun a=>qb5 E0 (ev E0 KD (m+7+4)) Tryz.f6 a s) qak) qak) (.ptr S.next 0) h.le d.env 0 qa1 S6 _ hE6 hEb d2 rfl (by have:=h.le; unfold qa1; omega) m5 (by simp only[lAq,List.nil_append,List.length_singleton]; omega);rw[show V.int .i64 0=.int .i64 ((0:Nat):Int)from rfl,f1,exB_same,R6_17_eq]at hF;have gb7:Grew (fun x=>S2.next<=x) S6 S7:=f3.mono fun x _ hx=>by omega
  have n7:=gb7.next
  have ag7:AgAt S7 S.next 25 4 Tt:=ag6.grew (by omega) (by omega) gb7
  obtain⟨S8,k1,k2,k3,k4⟩:=qdc f2.on 9 (Ev.one (sv [])) [sv wRun] (fun v hv=>by rw[List.mem_singleton.1 hv]; exact qep _) (by show 1<big; unfold big; decide);have hB8:=f2.grew k3 (fun h=>h) (fun _ _ _ h=>h);obtain⟨S9,o1,o2,o3⟩:=qlt (m+7) (l:=[wRun]) hB8 (.inl rfl) k2 (by omega) (by simp[sumL,wRun]) (by simp only[lAq,List.nil_append,List.length_singleton]; omega);rw[show bsP 9 1 1 (Ev.one (sv [])) [(0,(sv [114,117,110]))] S7=some (.slice S7.next 0 1 1,S8)from k1 none,oB]at hF;dsimp only at hF
  have ho1:qc2 E0 (ev E0 KD (m+7+4)) (.fn (.func 16) [] [.ptr S2.next 0]) [.slice S7.next 0 1 1] S8=some (.ret (.tuple []),S9):=by
   rw[qb6 body16.1 body16.2];exact o1
  have gb9:Grew (fun x=>S2.next<=x) S7 S9:=(k3.mono fun _ _ h=>(h:False).elim).trans (o3.mono fun x _ hx=>by omega);have n9:=gb9.next
  have on9:=o2.on;have ag9:AgAt S9 S.next 25 4 Tt:=ag7.grew (by omega) (by omega) gb9
  obtain⟨X,L,x1,x2,x3⟩:=told_on (m+10) o2 (by simp) ag9 (by omega);have onX:=x3.on.trans on9;have agX:AgAt X S.next 25 4 Tt:=ag9.grew (by omega) (by omega) x3
  have hscr:=qbj onX (agX.ld1 onX qcx (show 3<4 by decide) h.t.scr) [];obtain⟨Y,y1,y2,y3,y4⟩:=qf8 on9 X [] [L,[],[⟨S.next,3,3+1,false⟩],[],[],[]];have hjr:(qit [wRun]).length=3:=rfl
  have hpair:qaq [L,[],[⟨S.next,3,3+1,false⟩],[],[],[]] [(0,[2])]=true:=by
   refine pairs_one (b:=S.next) ?_ ?_ rfl
   . exact x2
   . intro f hf
     have:f=⟨S.next,3,3+1,false⟩:=List.mem_singleton.1 hf;subst this;exact⟨rfl,rfl⟩
  rw[ho1,callP_ret,qb2,show ev E0 KD (m+7+4)=ev E0 KD (m+10+1)from rfl,x1,qbf,show faP 3 false 1 (.ptr S.next 0)=some (.ptr S.next 3)from rfl,oB,qag,qb2,hscr,oB]at hF;dsimp only at hF;rw[addStr _ _ (by simp only[lAq,List.nil_append,List.length_singleton]; omega),oB,qag,qb2,show(X.lg L).log=L from rfl,show(X.lg [⟨S.next,3,3+1,false⟩]).log=[⟨S.next,3,3+1,false⟩]from rfl,qbw hpair,y1]at hF;have gAll:Grew (fun x=>S2.next<=x) S5 Y:=(gb6.trans (gb7.trans gb9)).trans ((x3.mono fun x _ hx=>by omega).trans ((Grew.of_eq y2 y3 (y4.trans onX.symm)).mono fun _ _ h=>(h:False).elim));refine⟨Y,rq6 (hF.trans ?_),Grew.fresh g05 (N:=S2.next) (by omega) gAll⟩;rw[iP rfl]
  have:([]++(qit [wDrv,d.nm]++[10])++d.ins.flatMap inL++d.env.flatMap envL++(qit [wRun]++[10])++d.scr)=qge d:=by
   unfold qge preD;simp[qit]
  rw[this]
end
end Go.Proofs.YtpgegoeghaplkaaGreatDoor.W
