/-
  WHAT THE FUNCTIONS COME TO: each is read by the evaluator,printed,and told as a function of data,part 9 of 12 (no condition).
-/
import Derived.Test.YtafbipadnnmccaaDoorW8
import Derived.Test.YtafbipadnnmccaaDoorProg
import Derived.WalkKit
import Derived.LaidEql
import Derived.Stop.Asserts
import Derived.RowKitTokens
import Derived.ProofKit
noncomputable section
namespace Go.Proofs.YtafbipadnnmccaaDoor.W
open Go.Proofs.YtafbipadnnmccaaDoor.Ev Go.RowKit
theorem proj8 (v0 v2 v3 v4 v5:V) (ds:List AD) (k:Ac->Rs):qbs [0,2,3,4,5] (frD 62 [(0,v0),(2,v2),(3,v3),(4,v4),(5,v5)] ds) k=k (frD 62 [(0,v0),(2,v2),(3,v3),(4,v4),(5,v5)] ds):=by kernel_rfl
section
variable {K:FuncId->Option KF} {S U T:St} {i M:Nat} {s:Bs} {toks:List Tok} {waits:List (Nat×Bs)} {vT vW:V}
abbrev StR (o:Rd) (S:St) (M:Nat) (s:Bs) (i:Nat) (toks:List Tok) (waits:List (Nat×Bs)) (vT vW:V) (r:Rs) (rn ro:St->Rs):Prop:=match o with
 | none=>∃U,r=rn U/\LS U (M+4) (M+2) s i toks waits vT vW/\Grew (fun _=>False) S U
 | some (.ok q)=>∃U vT' vW',r=ro U/\LS U (M+4) (M+2) s q.1 q.2.1 q.2.2 vT' vW'/\Grew (fun x=>x=M+2\/M+4<=x) S U
 | some (.error e)=>LexR (.error e) S M r
abbrev AllR (o:Except Flt (Nat×List Tok×List (Nat×Bs))) (S:St) (M:Nat) (s:Bs) (r:Rs) (ro:St->Rs):Prop:=match o with
 | .ok q=>∃U vT' vW',r=ro U/\LS U (M+4) (M+2) s q.1 q.2.1 q.2.2 vT' vW'/\Grew (fun x=>x=M+2\/M+4<=x) S U
 | .error e=>LexR (.error e) S M r
theorem AllR.step {o:Except Flt (Nat×List Tok×List (Nat×Bs))} {r r':Rs} {ro:St->Rs} (hr:r=r') (g:Grew (fun _=>False) S T) (h:AllR o T M s r' ro):AllR o S M s r ro:=by
 subst hr;cases o with
 | ok q=>
  obtain⟨U,vT',vW',b1,b2,b3⟩:=h;exact⟨U,vT',vW',b1,b2,(g.mono fun x _ hx=>hx.elim).trans b3⟩
 | error e=>exact LexR.after (o:=.error e) (g.mono fun x _ hx=>hx.elim) h
theorem StR.all {o:Except Flt (Nat×List Tok×List (Nat×Bs))} {r:Rs} {rn ro:St->Rs} (h:StR (some o) S M s i toks waits vT vW r rn ro):AllR o S M s r ro:=by
 cases o with
 | ok q=>exact h
 | error e=>exact h
theorem Lx.w3f {b:Nat} (ho:S.on=false) (h:Lx S b s i vT vW):ld1 (.ptr b 3) S=some (vW,S):=by
 obtain⟨t,h1,_,_,_,h2⟩:=h.ex;exact h1.ld1 ho big4 (by decide) h2
theorem Lx.t2f {b:Nat} (ho:S.on=false) (h:Lx S b s i vT vW):ld1 (.ptr b 2) S=some (vT,S):=by
 obtain⟨t,h1,_,_,h2,_⟩:=h.ex;exact h1.ld1 ho big4 (by decide) h2
theorem rd_step {self:EV} {o:Rd} {p q f:Nat} {nk:Ac->St->Rs} {ek:Nat->Ac->St->Rs} (h:LS S (M+4) (M+2) s i toks waits vT vW) (hE:Env8 S M) (hp:p<4) (hf:(fnRow M)[p]?=some (.fn (.func f) [.ptr (M+2) 0] [])) (hx:E0.ext.get f=none) (hb:qda E0 f=true) (hr:RdR o S (M+4) (M+2) s i toks waits vT vW (self.f f [.ptr (M+2) 0] S)) (v0:V) :
 StR o S M s i toks waits vT vW (L8_58 self qa3 nk ek (q+1) (ds8 M) v0 (.ptr M 0) (.ptr (M+1) 0) (.ptr (M+2) 0) (.slice (M+3) 0 4 4) (.slice (M+3) 0 4 4) (.int .i64 4) (.int .i64 (p:Int)) S) (fun U=>L8_58 self qa3 nk ek q (ds8 M) v0 (.ptr M 0) (.ptr (M+1) 0) (.ptr (M+2) 0) (.slice (M+3) 0 4 4) (.slice (M+3) 0 4 4) (.int .i64 4) (.int .i64 ((p+1:Nat):Int)) U) (fun U=>ek 4 (frD 62 [(0,v0),(2,.ptr M 0),(3,.ptr (M+1) 0),(4,.ptr (M+2) 0),(5,.slice (M+3) 0 4 4)] (ds8 M)) U):=by
 generalize hR:L8_58 self qa3 nk ek (q+1) (ds8 M) v0 (.ptr M 0) (.ptr (M+1) 0) (.ptr (M+2) 0) (.slice (M+3) 0 4 4) (.slice (M+3) 0 4 4) (.int .i64 4) (.int .i64 (p:Int)) S=R;rw[L8_58_eq,show V.int .i64 4=.int .i64 ((4:Nat):Int)from rfl,qkg,oB,dT hp,ifK_bool,cT,ixP_sl _ _ _ hp,oB]at hR;have hg:((fnRow M).map Ev.one)[p]?=some (Ev.one (.fn (.func f) [.ptr (M+2) 0] [])):=by rw[List.getElem?_map,hf]; rfl
 have hld:ld1 (.ptr (M+3) p) S=some (.fn (.func f) [.ptr (M+2) 0] [],S):=hE.r.ld1 h.on hg;rw[hld,oB]at hR;dsimp only at hR;rw[qkl hx hb,show [V.ptr (M+2) 0]++[]++[]=[V.ptr (M+2) 0]from rfl]at hR;have hhi:=h.hi;cases o with
 | none=>
  obtain⟨U,r1,r2,r3⟩:=hr;rw[r1,qci,ifK_bool,cF,qei (by omega),oB]at hR;exact⟨U,hR.symm,r2,r3⟩
 | some r=>
  cases r with
  | ok r=>
   obtain⟨U,vT',vW',r1,r2,r3⟩:=hr;rw[r1,qci,ifK_bool,cT]at hR;exact⟨U,vT',vW',hR.symm,r2,r3⟩
  | error e=>
   rw[<- hR];exact bad_lex (by rfl) (by kernel_rfl) (by kernel_rfl) h.on hhi hE hr
theorem rd_all (hK:RefL K) (d q:Nat) {nk:Ac->St->Rs} {ek:Nat->Ac->St->Rs} (h:LS S (M+4) (M+2) s i toks waits vT vW) (hE:Env8 S M) (hI:Inv s i toks waits) (hs:s.length<=5000) (hi:i<s.length) (hd:18*s.length+600<=d) (v0:V) :
 AllR (qd4 s i toks waits) S M s (L8_58 (ev E0 K (d+20)) qa3 nk ek (q+5) (ds8 M) v0 (.ptr M 0) (.ptr (M+1) 0) (.ptr (M+2) 0) (.slice (M+3) 0 4 4) (.slice (M+3) 0 4 4) (.int .i64 4) (.int .i64 0) S) (fun U=>ek 4 (frD 62 [(0,v0),(2,.ptr M 0),(3,.ptr (M+1) 0),(4,.ptr (M+2) 0),(5,.slice (M+3) 0 4 4)] (ds8 M)) U):=by
 have tl:=hI.t;have wl:=hI.w;have htx:∀x∈toks,x.text.length<9223372036854770000:=fun x hx=>by have:=hI.tx x hx; omega
 have s1:=rd_step (p:=0) (q:=q+4) (f:=19) (nk:=nk) (ek:=ek) h hE (by omega) rfl (by kernel_rfl) (by kernel_rfl) (line_run hK (d+9) h hs hi (by omega) (by omega) hI.ix (by omega)) v0;rw[show((0:Nat):Int)=0 from rfl]at s1;unfold qd4;cases hl:linD s i toks waits with
 | some r=>
  rw[hl]at s1;exact StR.all s1
 | none=>
  rw[hl]at s1;obtain⟨U1,a1,a2,a3⟩:=s1;have hh:=h.hi;have e1:=hE.grew hh a3 (fun x hx=>hx.elim);refine AllR.step a1 a3 ?_;have s2:=rd_step (p:=1) (q:=q+3) (f:=20) (nk:=nk) (ek:=ek) a2 e1 (by omega) rfl (by kernel_rfl) (by kernel_rfl) (remark_run hK (d+14) a2 hs hi) v0;cases hr:remD s i toks waits with
  | some r=>
   rw[hr]at s2;exact StR.all s2
  | none=>
   rw[hr]at s2;obtain⟨U2,b1,b2,b3⟩:=s2;have e2:=e1.grew a2.hi b3 (fun x hx=>hx.elim);refine AllR.step b1 b3 ?_;have s3:=rd_step (p:=2) (q:=q+2) (f:=21) (nk:=nk) (ek:=ek) b2 e2 (by omega) rfl (by kernel_rfl) (by kernel_rfl) (mark_run hK (d+11) b2 hs hi (by omega)) v0;cases hm:mrkD s i toks waits with
   | some r=>
    rw[hm]at s3;exact StR.all s3
   | none=>
    rw[hm]at s3;obtain⟨U3,c1,c2,c3⟩:=s3;have e3:=e2.grew b2.hi c3 (fun x hx=>hx.elim);refine AllR.step c1 c3 ?_;exact StR.all (rd_step (p:=3) (q:=q+1) (f:=22) (nk:=nk) (ek:=ek) c2 e3 (by omega) rfl (by kernel_rfl) (by kernel_rfl) (word_run hK (d+17) c2 hs hi (by omega) (by omega) htx (by omega)) v0)
theorem lex_loop (hK:RefL K) (d:Nat) (hs:s.length<=5000) (hd:18*s.length+600<=d) :
 ∀(n q i:Nat) (toks:List Tok) (waits:List (Nat×Bs)) (vT vW:V) (S:St),LS S (M+4) (M+2) s i toks waits vT vW->Env8 S M->Inv s i toks waits->i<=s.length->s.length+1<=n+i->n<q->
 LexR (qi2 n s i toks waits) S M (L8_50 (ev E0 K (d+20)) qa3 (R8_28 (ev E0 K (d+20)) qa3 (qcn E0 (ev E0 K (d+20)) Tryd.f8) qb0) (exB 0 (R8_28 (ev E0 K (d+20)) qa3 (qcn E0 (ev E0 K (d+20)) Tryd.f8) qb0) qb0) q (ds8 M) (sv s) (.ptr M 0) (.ptr (M+1) 0) (.ptr (M+2) 0) (.slice (M+3) 0 4 4) S)
 | n,0,i,toks,waits,vT,vW,S,h,hE,hI,hi,hn,hq=>absurd hq (Nat.not_lt_zero _)
 | 0,q+1,i,toks,waits,vT,vW,S,h,hE,hI,hi,hn,hq=>by omega
 | n+1,q+1,i,toks,waits,vT,vW,S,h,hE,hI,hi,hn,hq=>by
  have ih:=lex_loop hK d hs hd n q;generalize hNK:R8_28 (ev E0 K (d+20)) qa3 (qcn E0 (ev E0 K (d+20)) Tryd.f8) qb0=NK at ih ⊢;rw[L8_50_eq,qbq];obtain⟨U,k1,k2,k3⟩:=ski_run hK (d+16) hs (R8_51 (ev E0 K (d+20)) qa3 (qie (ev E0 K (d+20)) qa3 NK (exB 0 NK qb0) q) (exB 1 (qie (ev E0 K (d+20)) qa3 NK (exB 0 NK qb0) q) (exB 0 NK qb0))) (exB 2 (R8_51 (ev E0 K (d+20)) qa3 (qie (ev E0 K (d+20)) qa3 NK (exB 0 NK qb0) q) (exB 1 (qie (ev E0 K (d+20)) qa3 NK (exB 0 NK qb0) q) (exB 0 NK qb0))) (exB 1 (qie (ev E0 K (d+20)) qa3 NK (exB 0 NK qb0) q) (exB 0 NK qb0))) (ds8 M) (sv s) (.ptr M 0) (.ptr (M+1) 0) (.slice (M+3) 0 4 4) (s.length+1) i qa3 S h hi (by omega) (by unfold qa3; omega);obtain⟨i1,i2,i3⟩:=qe0 (s.length+1) s i hi (by omega);generalize qeh (s.length+1) s i=i' at *;have hh:=h.hi;have eU:=hE.grew hh k3 (fun x hx=>.inl hx);have gU:Grew (fun x=>M<=x) S U:=k3.mono fun x _ hx=>by omega
  have hIU:Inv s i' toks waits:=⟨by have:=hI.t; omega,by have:=hI.w; omega,hI.ix,hI.tx⟩
  rw[k1,exB_same,R8_51_eq,qen hK (d+19) k2.on k2.lx,qci,qhg,oB,ifK_bool];refine LexR.after gU ?_;by_cases hlt:i'<s.length
  . rw[dT hlt,Bool.not_true,cF,iP hlt,show lnS (.slice (M+3) 0 4 4) U=some (.int .i64 4,U)from rfl,oB]
    dsimp only;have hra:=rd_all hK d (qa3-5) (nk:=fun a s=>qbs [0,2,3,4,5] a fun a=>qie (ev E0 K (d+20)) qa3 NK (exB 0 NK qb0) q a s) (ek:=exB 4 (fun a s=>qbs [0,2,3,4,5] a fun a=>qie (ev E0 K (d+20)) qa3 NK (exB 0 NK qb0) q a s) (exB 1 (qie (ev E0 K (d+20)) qa3 NK (exB 0 NK qb0) q) (exB 0 NK qb0))) k2 eU hIU hs hlt hd (sv s);rw[show qa3-5+5=qa3 by unfold qa3; omega]at hra;cases hst:qd4 s i' toks waits with
    | error e=>
     rw[hst]at hra;exact hra
    | ok r=>
     rw[hst]at hra;obtain⟨U2,vT',vW',b1,b2,b3⟩:=hra;obtain⟨j1,j2,j3⟩:=qfi hIU hlt (i3 hlt).1 (i3 hlt).2 hst;rw[b1];dsimp only;rw[exB_same,proj8,N8_50_eq];exact LexR.after (b3.mono fun x _ hx=>by omega) (ih r.1 r.2.1 r.2.2 vT' vW' U2 b2 (eU.grew k2.hi b3 (fun x hx=>hx)) j3 j2 (by omega) (by omega))
  . rw[dF hlt,nF,cT,iN hlt]
    rw[show ∀(A:Ac->St->Rs) (B:Nat->Ac->St->Rs) (a:Ac) (X:St),exB 1 A B 0 a X=B 0 a X from fun _ _ _ _=>rfl,exB_same,<- hNK,R8_28_eq,nilK,oB,show faP 3 false 1 (.ptr (M+2) 0)=some (.ptr (M+2) 3)from rfl,oB,k2.lx.w3f k2.on,oB];dsimp only;rw[k2.wt.len,oB,lM];dsimp only;rw[gtr0,oB,ifK_bool];by_cases hw:waits=[]
    . subst hw
      rw[iP rfl,show decide (0<([]:List (Nat×Bs)).length)=false from rfl,cF,oB,show faP 2 false 1 (.ptr (M+2) 0)=some (.ptr (M+2) 2)from rfl,oB,k2.lx.t2f k2.on,oB];dsimp only;obtain⟨rT,r1,r2⟩:=k2.tk;obtain⟨q1,q2,q3⟩:=qk3 r1;obtain⟨T2,c1,c2,c3,c4⟩:=eU.d.st_one k2.on vT q1 q2 q3;have on2:=c3.on.trans k2.on;have hh2:=k2.hi;have e2:AgAt T2 (M+1) 24 1 (Ev.one .niliface):=eU.e.grew (by omega) (by omega) c3;obtain⟨T3,d1,d2,d3,d4⟩:=e2.st_one on2 .niliface rfl rfl rfl;rw[c1,oB];dsimp only;rw[d1,oB];dsimp only;rw[fin8 (pd:=M) (pe:=M+1) (by rfl) (by kernel_rfl) (by kernel_rfl) (d3.on.trans on2) (c2.grew (by omega) (by omega) d3) d2];have hvb:∀r,qai vT=some r->M+4<=r:=fun r hr=>(k2.tb r hr).1;refine⟨T3,vT,rT,rfl,(r1.grew (fun r hr hx=>by have:=hvb r hr; omega) c3).grew (fun r hr hx=>by have:=hvb r hr; omega) d3,((r2.grew c3 fun x hx he=>by omega).grew d3 fun x hx he=>by omega).mono fun x hx=>⟨by omega,by omega⟩,fun r hr=>by have:=hvb r hr; omega,(c3.mono fun x _ hx=>by omega).trans (d3.mono fun x _ hx=>by omega)⟩
    . have hpos:0<waits.length:=List.length_pos_iff.2 hw
      rw[iN hw,dT hpos,cT,lnStr_sv,oB];dsimp only;exact bad_lex (by rfl) (by kernel_rfl) (by kernel_rfl) k2.on k2.hi eU (bad0 (qc7 hK (d+19) k2.on 19 s.length))
end
theorem build_52l:qaa E0 52 [(0,(.int .i64 3)),(1,(.int .i64 4000))]=some (.agg 2 (qjx 3 4000)):=by kernel_rfl
theorem build_lx0 (s:Bs):qaa E0 57 [(0,sv s)]=some (.agg 4 (Tr.ofListFrom .nil [sv s,.int .i64 0,.nilslice,.nilslice] 0)):=by kernel_rfl
section
variable {K:FuncId->Option KF} {S U T:St} {s:Bs}
theorem lex_run (hK:RefL K) (d:Nat) (s:Bs) (ho:S.on=false) (hs:s.length<=5000) (hd:18*s.length+600<=d):LexR (qfb s) S S.next ((ev E0 K (d+21)).f 8 [sv s] S):=by
 have hF:∀r,F8 (ev E0 K (d+20)) qa3 (sv s) S=some r->(ev E0 K (d+21)).f 8 [sv s] S=some r:=fun r e=>rv8 hK e
 suffices hq:LexR (qfb s) S S.next (F8 (ev E0 K (d+20)) qa3 (sv s) S) by
  cases ho:qfb s with
  | ok t=>
   rw[ho]at hq;obtain⟨U,v,rT,h1,h2⟩:=hq;exact⟨U,v,rT,hF _ h1,h2⟩
  | error e=>
   rw[ho]at hq;obtain⟨U,x,h1,h2⟩:=hq;exact⟨U,x,hF _ h1,h2⟩
 obtain⟨a1,a2,a3⟩:=qbx ho 22 1 (Ev.one .nilslice);have on1:=a2.on.trans ho;obtain⟨b1,b2,b3⟩:=qbx on1 24 1 (Ev.one .niliface);have on2:=b2.on.trans on1;have g2:Grew (fun x=>S.next<=x) S (nwP 24 1 (Ev.one .niliface) (nwP 22 1 (Ev.one .nilslice) S).2).2:=(a2.mono fun _ _ h=>h.elim).trans (b2.mono fun _ _ h=>h.elim);have n2:(nwP 24 1 (Ev.one .niliface) (nwP 22 1 (Ev.one .nilslice) S).2).2.next=S.next+2:=by rw[b3,a3]
 rw[a3]at b1;have d0:AgAt (nwP 24 1 (Ev.one .niliface) (nwP 22 1 (Ev.one .nilslice) S).2).2 S.next 22 1 (Ev.one .nilslice):=a1.grew (by omega) (fun h=>h) b2
 rw[F8_eq,oB,oB,qbv,qbv,a3,lnStr_sv,oB];dsimp only;rw[show(V.int .i64 4000)=.int .i64 ((4000:Nat):Int)from rfl,binV_ii,intsV_gtr,oB,ifK_bool];generalize (nwP 24 1 (Ev.one .niliface) (nwP 22 1 (Ev.one .nilslice) S).2).2=S2 at *;unfold qfb;by_cases hl:4000<s.length
 . rw[iP hl,show decide (((s.length:Nat):Int)>((4000:Nat):Int))=true by simp; omega,cT,show qaa E0 52 [(0,(.int .i64 3)),(1,(.int .i64 ((4000:Nat):Int)))]=some (.agg 2 (qjx 3 4000))from build_52l,oB,show ∀T:Tr V,boxK 52 (.agg 2 T) S2=some (.ptr S2.next 0,(nwP 52 2 T S2).2)from fun T=>rfl,oB]
   dsimp only;obtain⟨c1,c2,c3⟩:=qbx on2 52 2 (qjx 3 4000);have on3:=c2.on.trans on2;obtain⟨S4,e1,e2,e3,e4⟩:=(d0.grew (by omega) (fun h=>h) c2).st_one on3 .nilslice rfl rfl rfl;have on4:=e3.on.trans on3;have hb4:AgAt S4 (S.next+1) 24 1 (Ev.one .niliface):=(b1.grew (by omega) (fun h=>h) c2).grew (by omega) (by omega) e3;obtain⟨S5,f1,f2,f3,f4⟩:=hb4.st_one on4 (.iface 51 (.ptr S2.next 0)) rfl rfl rfl;rw[e1,oB];dsimp only;rw[f1,oB];dsimp only;rw[(e2.grew (by omega) (by omega) f3).ldr_one (f3.on.trans on4),oB];dsimp only;rw[f2.ldr_one (f3.on.trans on4),oB];exact⟨S5,S2.next,rfl,(c1.grew (by omega) (by omega) e3).grew (by omega) (by omega) f3,by omega,by omega,((g2.trans (c2.mono fun _ _ h=>h.elim)).trans (e3.mono fun x _ hx=>by omega)).trans (f3.mono fun x _ hx=>by omega)⟩
 . rw[iN hl,show decide (((s.length:Nat):Int)>((4000:Nat):Int))=false by simp; omega,cF,build_lx0,oB,show ∀T:Tr V,boxK 57 (.agg 4 T) S2=some (.ptr S2.next 0,(nwP 57 4 T S2).2)from fun T=>rfl,oB]
   dsimp only;obtain⟨c1,c2,c3⟩:=qbx on2 57 4 (Tr.ofListFrom .nil [sv s,.int .i64 0,.nilslice,.nilslice] 0);have on3:=c2.on.trans on2;have lx3:Lx (nwP 57 4 (Tr.ofListFrom .nil [sv s,.int .i64 0,.nilslice,.nilslice] 0) S2).2 S2.next s 0 .nilslice .nilslice:=⟨_,c1,by kernel_rfl,by kernel_rfl,by kernel_rfl,by kernel_rfl⟩
   have d3:=d0.grew (by omega) (fun h=>h) c2;have b4:=b1.grew (by omega) (fun h=>h) c2;have g3:=g2.trans (c2.mono fun x _ h=>(h.elim:S.next<=x));generalize (nwP 57 4 (Tr.ofListFrom .nil [sv s,.int .i64 0,.nilslice,.nilslice] 0) S2).2=S3 at *
   obtain⟨S4,e1,e2,e3,e4⟩:=bsP_ones on3 34 (Ev.one .nilfn) (fnRow S.next) (fun v hv=>by
    unfold fnRow at hv;simp only[List.mem_cons,List.not_mem_nil,or_false]at hv
    rcases hv with rfl|rfl|rfl|rfl<;>exact⟨rfl,rfl,rfl,rfl⟩) (by show 4<big; unfold big; decide)
   have hbs:bsP 34 1 4 (Ev.one .nilfn) [(0,(.fn (.func 19) [.ptr (S.next+2) 0] [])),(1,(.fn (.func 20) [.ptr (S.next+2) 0] [])),(2,(.fn (.func 21) [.ptr (S.next+2) 0] [])),(3,(.fn (.func 22) [.ptr (S.next+2) 0] []))] S3=some (.slice S3.next 0 4 4,S4):=e1 none;have n3:S3.next=S.next+3:=by rw[c3,n2]
   have n4:S4.next=S.next+4:=by rw[e4,n3]
   rw[n2,hbs,oB,n3,adOf_fn];dsimp only;rw[n2]at lx3;rw[n3]at e2;have on4:=e3.on.trans on3;have L4:LS S4 (S.next+4) (S.next+2) s 0 [] [] .nilslice .nilslice:=⟨on4,by omega,by omega,lx3.grew (by omega) (fun h=>h) e3,⟨[],.inl ⟨rfl,rfl⟩,rfl,fun i t ht=>by simp at ht⟩,.inl ⟨rfl,rfl⟩,(fun r hr=>by cases hr),(fun r hr=>by cases hr)⟩
   have E4:Env8 S4 S.next:=⟨d3.grew (by omega) (fun h=>h) e3,b4.grew (by omega) (fun h=>h) e3,e2⟩
   have I4:Inv s 0 [] []:=⟨lR _,lR _,(fun w hw=>by cases hw),(fun x hx=>by cases hx)⟩
   exact LexR.after (g3.trans (e3.mono fun x _ h=>h.elim)) (lex_loop hK d hs hd (s.length+1) qa3 0 [] [] .nilslice .nilslice S4 L4 E4 I4 (Nat.zero_le _) (by omega) (by unfold qa3; omega))
end
section
variable {K:FuncId->Option KF} {S:St}
theorem ln_s (s:Bs) (S:St):qdk (sv s) S=some (.int .i64 (s.length:Int),S):=lnStr_sv ..
end
end Go.Proofs.YtafbipadnnmccaaDoor.W

namespace Go.Proofs.YtafbipadnnmccaaDoor.X
open Go.RowKit Go.Extern.Stop Go.Stop Go.Extern
theorem as_nil (t:Value) (w:World):Calls Tryd.prog 32 #[.nilIface,t] w fun e w'=>e=.returned (.bool false)/\w'=w:=by
 go_enter Tryd.func32,Tryd.ntmps32
 go_wp2
 go_ret
 exact⟨rfl,rfl⟩
theorem valueOf71 (t:Addr) (w:World):(ReflectliteValue.unpack (.iface 71 (.pointer (some t)))).run Tryd.prog w
 = .ok (.agg #[.pointer (some ⟨4,71,none⟩),.pointer (some ⟨w.heap.size,0,none⟩),.int .u64 150]) (w.alloc (.cells #[.pointer (some t)] 71)):=by kernel_rfl
theorem type71 (a : Addr) (w : World) : (ReflectliteValue.methodAny (ReflectliteValue.valueError "reflectlite.Value.Type" 0) (fun t _ _ _ => ReflectliteType.toType t) #[.agg #[.pointer (some ⟨4, 71, none⟩), .pointer (some a), .int .u64 150]]).run Tryd.prog w
 = .ok (.iface 136 (.agg #[.pointer (some ⟨4,71,none⟩)])) w:=by kernel_rfl
theorem methodKind (h : Value) (w : World) : (Go.method 301 136 (.agg #[h]) "Kind").run Tryd.prog w = .ok (118, h) w := by kernel_rfl
theorem kind71 (w:World):((ReflectliteType.abiMethod fun t=>(fun a:Nat=>Value.int IntKind.u8 (a:Int)) <$> Rtype.kind t) #[.pointer (some ⟨4,71,none⟩)]).run Tryd.prog w=.ok (.int .u8 22) w:=by kernel_rfl
theorem kind51 (w:World):((ReflectliteType.abiMethod fun t=>(fun a:Nat=>Value.int IntKind.u8 (a:Int)) <$> Rtype.kind t) #[.pointer (some ⟨4,51,none⟩)]).run Tryd.prog w=.ok (.int .u8 22) w:=by kernel_rfl
theorem rlm (z:Sem Value) (f:TypeId->Addr->Nat->Nat->Sem Value) (v:Value) :
 ReflectliteValue.method z f #[v]=(do match <- ReflectliteValue.parts v with|none=>z|some (t,a,fl)=>f t a fl (fl%32)):=rfl
theorem parts71 (a:Addr) (w:World):(ReflectliteValue.parts (.agg #[.pointer (some ⟨4,71,none⟩),.pointer (some a),.int .u64 150])).run Tryd.prog w=.ok (some (71,a,150)) w:=by kernel_rfl
theorem isNil71 (a p:Addr) (W:World) (ha:W.cell? a=some (.pointer (some p))) :
 (ReflectliteValue.method (ReflectliteValue.valueError "reflectlite.Value.IsNil" 0) ReflectliteValue.isNil #[.agg #[.pointer (some ⟨4, 71, none⟩), .pointer (some a), .int .u64 150]]).run Tryd.prog W = .ok (.bool false) W := by
 rw[rlm];simp only[Sem.run_bind,parts71,Result.andThen];simp[ReflectliteValue.isNil,loadVar,isAgg,underlying,Tryd.underlying71,ha,Result.andThen]
theorem methodElem (h : Value) (w : World) : (Go.method 301 136 (.agg #[h]) "Elem").run Tryd.prog w = .ok (131, .agg #[h]) w := by kernel_rfl
theorem qki (h : Value) (w : World) : (Go.method 301 136 (.agg #[h]) "Implements").run Tryd.prog w = .ok (132, .agg #[h]) w := by kernel_rfl
theorem qiq (h : Value) (w : World) : (Go.method 301 136 (.agg #[h]) "AssignableTo").run Tryd.prog w = .ok (129, .agg #[h]) w := by kernel_rfl
theorem elem71 (w:World):(ReflectliteType.method ReflectliteType.elem #[.agg #[.pointer (some ⟨4,71,none⟩)]]).run Tryd.prog w=.ok (.iface 136 (.agg #[.pointer (some ⟨4,51,none⟩)])) w:=by kernel_rfl
theorem implements51 (w : World) : (ReflectliteType.relation "Implements" ReflectliteType.implements_ #[.agg #[.pointer (some ⟨4, 51, none⟩)], .iface 136 (.agg #[.pointer (some ⟨4, 24, none⟩)])]).run Tryd.prog w = .ok (.bool true) w := by kernel_rfl
theorem typeOf51 (v:Value) (w:World):(ReflectliteType.typeOf #[.iface 51 v]).run Tryd.prog w=.ok (.iface 136 (.agg #[.pointer (some ⟨4,51,none⟩)])) w:=by kernel_rfl
theorem assignable51 (w : World) : (ReflectliteType.relation "AssignableTo" ReflectliteType.assignableTo #[.agg #[.pointer (some ⟨4, 51, none⟩)], .iface 136 (.agg #[.pointer (some ⟨4, 51, none⟩)])]).run Tryd.prog w = .ok (.bool true) w := by kernel_rfl
theorem valueOf51 (e:Addr) (w:World):(ReflectliteValue.unpack (.iface 51 (.pointer (some e)))).run Tryd.prog w
 = .ok (.agg #[.pointer (some ⟨4,51,none⟩),.pointer (some ⟨w.heap.size,0,none⟩),.int .u64 150]) (w.alloc (.cells #[.pointer (some e)] 51)):=by kernel_rfl
theorem elemOf71 (w:World):(Rtype.elem? 71).run Tryd.prog w=.ok (some 51) w:=by kernel_rfl
theorem mk51 (p:Addr) (w:World):(ReflectliteValue.mk 51 p ReflectliteValue.flagAddr).run Tryd.prog w=.ok (.agg #[.pointer (some ⟨4,51,none⟩),.pointer (some p),.int .u64 406]) w:=by kernel_rfl
theorem elemV71 (a p:Addr) (W:World) (ha:W.cell? a=some (.pointer (some p))) :
 (ReflectliteValue.method (ReflectliteValue.valueError "reflectlite.Value.Elem" 0) ReflectliteValue.elem #[.agg #[.pointer (some ⟨4, 71, none⟩), .pointer (some a), .int .u64 150]]).run Tryd.prog W
  = .ok (.agg #[.pointer (some ⟨4,51,none⟩),.pointer (some p),.int .u64 406]) W:=by
 rw[rlm];simp only[Sem.run_bind,parts71,Result.andThen];simp[ReflectliteValue.elem,loadVar,isAgg,underlying,Tryd.underlying71,ha,Result.andThen,elemOf71,mk51]
theorem rls (v x:Value):ReflectliteValue.set #[v,x]=(do
 let (some (dst,a,fl),some (src,b,_)):=(<- ReflectliteValue.parts v,<- ReflectliteValue.parts x)
  | unsupported (.noEntry "extern/(internal/reflectlite.Value).Set.zeroValue")
 if fl / ReflectliteValue.flagAddr % 2 == 0 then unsupported (.noEntry "extern/(internal/reflectlite.Value).Set.unaddressable")
 let val <- loadVar src b
 if <- Rtype.directlyAssignable dst src then storeVar dst a val
 else if <- Rtype.implements dst src then
  if(<- Rtype.kind src)==20 then
   match val with
   | .nilIface => unsupported (.noEntry "extern/reflectlite: a nil value of one interface type handed on as a value of another")
   | _=>storeVar dst a val
  else storeVar dst a (.iface src val)
 else panicString ("reflectlite.Set: value of type " ++ (<- Rtype.spelt src) ++ " is not assignable to type " ++ (<- Rtype.spelt dst))
 pure (.tuple #[])):=rfl
theorem parts51a (a:Addr) (w:World):(ReflectliteValue.parts (.agg #[.pointer (some ⟨4,51,none⟩),.pointer (some a),.int .u64 406])).run Tryd.prog w=.ok (some (51,a,406)) w:=by kernel_rfl
theorem parts51 (a:Addr) (w:World):(ReflectliteValue.parts (.agg #[.pointer (some ⟨4,51,none⟩),.pointer (some a),.int .u64 150])).run Tryd.prog w=.ok (some (51,a,150)) w:=by kernel_rfl
theorem direct51 (w:World):(Rtype.directlyAssignable 51 51).run Tryd.prog w=.ok true w:=by kernel_rfl
theorem set51 (ta b e:Addr) (old:Value) (W:World) (hb:W.cell? b=some (.pointer (some e))) (ht:W.cell? ta=some old) (hf:W.frozen? ta=false) :
 (ReflectliteValue.set #[.agg #[.pointer (some ⟨4,51,none⟩),.pointer (some ta),.int .u64 406],.agg #[.pointer (some ⟨4,51,none⟩),.pointer (some b),.int .u64 150]]).run Tryd.prog W
  = .ok (.tuple #[]) (W.setCell ta (.pointer (some e))):=by
 rw[rls];simp only[Sem.run_bind,parts51a,parts51,Result.andThen];simp[ReflectliteValue.flagAddr,loadVar,isAgg,underlying,Tryd.underlying51,hb,Result.andThen,direct51,storeVar,Value.cells,storeCells,Addr.add];rw[run_store Tryd.prog W ta _ _ (by rfl)];simp[ht,hf]
set_option maxHeartbeats 4000000 in
theorem as_hit (e t:Addr) (old:Value) (w:World) (hg:w.cell? ⟨0,0,none⟩=some (.iface 136 (.agg #[.pointer (some ⟨4,24,none⟩)]))) (ht0:w.cell? t=some old) (hf0:w.frozen? t=false) :
 Calls Tryd.prog 32 #[.iface 51 (.pointer (some e)),.iface 71 (.pointer (some t))] w fun ev w'=>ev=.returned (.bool true)/\w'=((((w.alloc (.cells #[.pointer (some t)] 71)).alloc (.cells #[.pointer (some ⟨4,71,none⟩),.pointer (some ⟨w.heap.size,0,none⟩),.int .u64 150] 103)).alloc (.cells #[.pointer (some ⟨4,71,none⟩),.pointer (some ⟨w.heap.size,0,none⟩),.int .u64 150] 103)).alloc (.cells #[.pointer (some e)] 51)).setCell t (.pointer (some e)):=by
 have h6 := @run_callFunc_extern Tryd.prog 52 _ (fun args => ReflectliteValue.unpack (args.getD 0 (.tuple #[]))) Tryd.func52 (by kernel_rfl) (by kernel_rfl) (by kernel_rfl) (by kernel_rfl);have h7 := @run_callFunc_extern Tryd.prog 53 _ (ReflectliteValue.methodAny (ReflectliteValue.valueError "reflectlite.Value.Type" 0) (fun t _ _ _ => ReflectliteType.toType t)) Tryd.func53 (by kernel_rfl) (by kernel_rfl) (by kernel_rfl) (by kernel_rfl);have h8 := @run_callFunc_extern Tryd.prog 54 _ (ReflectliteValue.method (ReflectliteValue.valueError "reflectlite.Value.IsNil" 0) ReflectliteValue.isNil) Tryd.func54 (by kernel_rfl) (by kernel_rfl) (by kernel_rfl) (by kernel_rfl);have h27 := @run_callFunc_extern Tryd.prog 118 _ (ReflectliteType.abiMethod fun t => do pure (.int .u8 (<- Rtype.kind t))) Tryd.func118 (by kernel_rfl) (by kernel_rfl) (by kernel_rfl) (by kernel_rfl);have h37 := @run_callFunc_extern Tryd.prog 131 _ (ReflectliteType.method ReflectliteType.elem) Tryd.func131 (by kernel_rfl) (by kernel_rfl) (by kernel_rfl) (by kernel_rfl);have h38 := @run_callFunc_extern Tryd.prog 132 _ (ReflectliteType.relation "Implements" ReflectliteType.implements_) Tryd.func132 (by kernel_rfl) (by kernel_rfl) (by kernel_rfl) (by kernel_rfl);have h10 := @run_callFunc_extern Tryd.prog 56 _ ReflectliteType.typeOf Tryd.func56 (by kernel_rfl) (by kernel_rfl) (by kernel_rfl) (by kernel_rfl)
 have h35 := @run_callFunc_extern Tryd.prog 129 _ (ReflectliteType.relation "AssignableTo" ReflectliteType.assignableTo) Tryd.func129 (by kernel_rfl) (by kernel_rfl) (by kernel_rfl) (by kernel_rfl);have h11 := @run_callFunc_extern Tryd.prog 79 _ (ReflectliteValue.method (ReflectliteValue.valueError "reflectlite.Value.Elem" 0) ReflectliteValue.elem) Tryd.func79 (by kernel_rfl) (by kernel_rfl) (by kernel_rfl) (by kernel_rfl);have h12 := @run_callFunc_extern Tryd.prog 80 _ ReflectliteValue.set Tryd.func80 (by kernel_rfl) (by kernel_rfl) (by kernel_rfl) (by kernel_rfl);have tO := typeOf51;have mA := qiq;have a25 := assignable51;have v25 := valueOf51;have f6 := valueOf71;have f7 := type71;have mK := methodKind;have mE := methodElem;have mI := qki;have k27 := kind71;have k25 := kind51;have e27 := elem71;have i25 := implements51;have n8 := isNil71 ⟨w.heap.size, 0, none⟩ t ((w.alloc (.cells #[.pointer (some t)] 71)).alloc (.cells #[.pointer (some ⟨4, 71, none⟩), .pointer (some ⟨w.heap.size, 0, none⟩), .int .u64 150] 103)) (by simp)
 have hlt:0<w.heap.size:=by
  rcases Nat.eq_zero_or_pos w.heap.size with h0|h
  . simp[World.cell?,h0]at hg
  . exact h
 have hg2:((w.alloc (.cells #[.pointer (some t)] 71)).alloc (.cells #[.pointer (some ⟨4,71,none⟩),.pointer (some ⟨w.heap.size,0,none⟩),.int .u64 150] 103)).cell? ⟨0,0,none⟩=some (.iface 136 (.agg #[.pointer (some ⟨4,24,none⟩)])):=by
  rw[World.cell?_alloc_lt _ _ ⟨0,0,none⟩ (by simp),World.cell?_alloc_lt _ _ ⟨0,0,none⟩ hlt]; exact hg
 have htl:t.block<w.heap.size:=by
  rcases Nat.lt_or_ge t.block w.heap.size with h|h
  . exact h
  . simp[World.cell?,Array.getElem?_eq_none h]at ht0
 have el:=elemV71 ⟨w.heap.size,0,none⟩ t (((w.alloc (.cells #[.pointer (some t)] 71)).alloc (.cells #[.pointer (some ⟨4,71,none⟩),.pointer (some ⟨w.heap.size,0,none⟩),.int .u64 150] 103)).alloc (.cells #[.pointer (some ⟨4,71,none⟩),.pointer (some ⟨w.heap.size,0,none⟩),.int .u64 150] 103)) (by rw[World.cell?_alloc_lt _ _ ⟨w.heap.size,0,none⟩ (by simp; omega)]; simp)
 have st:=set51 t ⟨w.heap.size+1+1+1,0,none⟩ e old ((((w.alloc (.cells #[.pointer (some t)] 71)).alloc (.cells #[.pointer (some ⟨4,71,none⟩),.pointer (some ⟨w.heap.size,0,none⟩),.int .u64 150] 103)).alloc (.cells #[.pointer (some ⟨4,71,none⟩),.pointer (some ⟨w.heap.size,0,none⟩),.int .u64 150] 103)).alloc (.cells #[.pointer (some e)] 51))
  (by rw[World.cell?_alloc_at _ _ _ _ (by simp)]; rfl)
  (by rw[World.cell?_alloc_lt _ _ t (by simp; omega),World.cell?_alloc_lt _ _ t (by simp; omega),World.cell?_alloc_lt _ _ t (by simp; omega),World.cell?_alloc_lt _ _ t htl]; exact ht0)
  (by rw[World.frozen?_alloc_old _ _ t (by simp; omega),World.frozen?_alloc_old _ _ t (by simp; omega),World.frozen?_alloc_old _ _ t (by simp; omega),World.frozen?_alloc_old _ _ t (Nat.ne_of_lt htl)]; exact hf0)
 go_enter Tryd.func32,Tryd.ntmps32
 go_wp2
 refine wp_loop_rounds 1 ?_;rw[rounds_succ]
 go_wp2
 go_ret
 exact⟨rfl,rfl⟩
theorem isTypeOf (v:Value) (w:World):(Extern.ReflectliteType.typeOf #[.iface 27 v]).run Tryd.prog w=.ok (.iface 136 (.agg #[.pointer (some ⟨4,27,none⟩)])) w:=by kernel_rfl
theorem comparable27 (w:World):(callFunc 130 #[.agg #[.pointer (some ⟨4,27,none⟩)]]).run Tryd.prog w=.ok (.value (.bool true)) w:=by
 rw [@run_callFunc_extern Tryd.prog 130 _ (ReflectliteType.method fun t => do Rtype.noPackHeld "Comparable" t; pure (.bool (<- typeInfo t).comparable)) Tryd.func130 (by kernel_rfl) (by kernel_rfl) (by kernel_rfl) (by kernel_rfl)];have h : (ReflectliteType.method (fun t => do Rtype.noPackHeld "Comparable" t; pure (.bool (<- typeInfo t).comparable)) #[.agg #[.pointer (some ⟨4, 27, none⟩)]]).run Tryd.prog w = .ok (.bool true) w := by kernel_rfl
 rw[h];rfl
theorem qkh (v : Value) (w : World) : (Go.method 301 136 v "Comparable").run Tryd.prog w = .ok (130, v) w := by kernel_rfl
theorem noIs51 (v:Value) (xT:TypeId) (w:World):(Instr.typeAssert (.iface 51 v) xT 148 true).run Tryd.prog w=.ok (.tuple #[.nilIface,.bool false]) w:=run_typeAssert_lacksB Tryd.underlying148 (by kernel_rfl) (by kernel_rfl) v xT w
theorem hasUnwrap51 (v:Value) (xT:TypeId) (w:World):(Instr.typeAssert (.iface 51 v) xT 143 true).run Tryd.prog w=.ok (.tuple #[.iface 51 v,.bool true]) w:=run_typeAssert_hasB Tryd.underlying143 (by kernel_rfl) v xT w
theorem methodUnwrap (v : Value) (w : World) : (Go.method 301 51 v "Unwrap").run Tryd.prog w = .ok (123, v) w := by kernel_rfl
theorem info27:(Tryd.prog.info? 27).map (·.comparable)=some true:=by kernel_rfl
theorem eql27 (c:Int) (w:World):(binOp .eql 24 (.iface 27 (.int .i64 c)) (.iface 27 (.int .i64 c))).run Tryd.prog w=.ok (.bool true) w:=by
 obtain⟨i,hi,hcmp⟩:=Option.map_eq_some_iff.1 info27
 have h:∀d:Nat,(Op.equalIn (d+2) 24 (.iface 27 (.int .i64 c)) (.iface 27 (.int .i64 c))).run Tryd.prog w=.ok true w:=fun d=>by
  simp[Op.equalIn,run_underlying Tryd.underlying24,run_underlying Tryd.underlying27,typeInfo,hi,hcmp]
 simp only[binOp];simp[Op.equal,Op.maxDepth,h 9998]
theorem is_hit (b:Addr) (c:Int) (w:World) (hb:w.cell? b=some (.int .i64 c)) :
 Calls Tryd.prog 33 #[.iface 51 (.pointer (some b)),.iface 27 (.int .i64 c)] w fun e w'=>e=.returned (.bool true)/\w'=w:=by
 have h8:=@run_callFunc_extern Tryd.prog 56 _ Extern.ReflectliteType.typeOf Tryd.func56 (by kernel_rfl) (by kernel_rfl) (by kernel_rfl) (by kernel_rfl);have tT:=isTypeOf;have cTT:=comparable27;have mR:=qkh;have nW:=noIs51;have uW:=hasUnwrap51;have mU:=methodUnwrap;have hty:=run_eql_iface_types (P:=Tryd.prog) 51 27 (.pointer (some b)) (.int .i64 c) Tryd.underlying24 (by decide) w;have heq:=eql27 c w
 go_enter Tryd.func33,Tryd.ntmps33
 go_wp2
 refine wp_loop_rounds 2 ?_;rw[rounds_succ]
 go_wp2
 rw[rounds_succ]
 go_wp2
 go_ret
 exact⟨rfl,rfl⟩
end Go.Proofs.YtafbipadnnmccaaDoor.X
namespace Go.Proofs.YtafbipadnnmccaaDoor.W
open Go.Proofs.YtafbipadnnmccaaDoor.Ev Go.RowKit Go.Proofs
theorem E1_ok:EnvOk Tryd.prog (envOf Tryd.prog [7,8,28,29,38,39,43,48,49,52,56,57,80,81,88,89,114,156,157,158,159,163,178,179,185,186,187,188,189,190] [(81,4),(82,105),(84,3),(97,1)] []):=envOf_ok (by kernel_rfl) (by kernel_rfl) (by kernel_rfl) (fun p hp=>by
 simp only[List.mem_cons,List.not_mem_nil,or_false]at hp;rcases hp with rfl|rfl|rfl|rfl
 . exact⟨fun h=>absurd h (by decide),fun h=>absurd h (by decide),fun h=>absurd h (by decide),fun _ args w=>by kernel_rfl,fun h=>absurd h (by decide)⟩
 . exact⟨fun h=>absurd h (by decide),fun h=>absurd h (by decide),fun h=>absurd h (by decide),fun h=>absurd h (by decide),fun _=>⟨Tryd.f82.params,Tryd.f82.resultTypes,Tryd.f82.resultTypes.getD 0 0,by kernel_rfl,by kernel_rfl,fun args w=>by kernel_rfl⟩⟩
 . exact⟨fun h=>absurd h (by decide),fun h=>absurd h (by decide),fun _ args w=>by kernel_rfl,fun h=>absurd h (by decide),fun h=>absurd h (by decide)⟩
 . exact⟨fun _ args w=>by kernel_rfl,fun h=>absurd h (by decide),fun h=>absurd h (by decide),fun h=>absurd h (by decide),fun h=>absurd h (by decide)⟩
 ) (by kernel_rfl) (by kernel_rfl) (by kernel_rfl)
theorem envOk_glob {P:Program} {E:Env} (h:EnvOk P E) (g:Tr Nat):EnvOk P {E with glob:=g}:=⟨h.tys,h.fns,h.call,h.ext,h.noExt,h.plain,h.mixed,h.lie,h.depth⟩
theorem E0_ok:EnvOk Tryd.prog E0:=envOk_glob E1_ok _
theorem globs:∀g b,E0.glob.get g=some b->(g=0/\b=0)\/(g=4/\b=1):=fun g b h=>by
 have h':(kinds [((0:Nat),(0:Nat)),(4,1)]).get g=some b:=h;have:=qip h';simp only[List.mem_cons,List.not_mem_nil,or_false,pM]at this;exact this
theorem run_put (t e:Addr) (old:Value) (W:World) (ht:W.cell? t=some old) (hf:W.frozen? t=false):(storeCells t [.pointer (some e)] 0).run Tryd.prog W=.ok () (W.setCell t (.pointer (some e))):=by
 simp[storeCells,Addr.add];rw[run_store Tryd.prog W t _ _ (by rfl)];simp[ht,hf]
theorem asOk:AsOk Tryd.prog 32 51 71 136 24 4 0 where
 nil:=X.as_nil
 hit e t old w hg ht hf:=(X.as_hit e t old w hg ht hf).mono fun ev w' h=>by
  obtain⟨h1,h2⟩:=h
  have htl:t.block<w.heap.size:=by
   rcases Nat.lt_or_ge t.block w.heap.size with h|h
   . exact h
   . simp[World.cell?,Array.getElem?_eq_none h]at ht
  refine⟨h1,_,?_,h2▸run_put t e old _ ?_ ?_⟩
  . exact((((Below.refl _ w).alloc (lR _) _).alloc (by simp) _).alloc (by simp; omega) _).alloc (by simp; omega) _
  . rw[World.cell?_alloc_lt _ _ t (by simp; omega),World.cell?_alloc_lt _ _ t (by simp; omega),World.cell?_alloc_lt _ _ t (by simp; omega),World.cell?_alloc_lt _ _ t htl]; exact ht
  . rw[World.frozen?_alloc_old _ _ t (by simp; omega),World.frozen?_alloc_old _ _ t (by simp; omega),World.frozen?_alloc_old _ _ t (by simp; omega),World.frozen?_alloc_old _ _ t (Nat.ne_of_lt htl)]; exact hf
def kfIs:KF:=⟨fun args s=>match args with
 | [.iface t1 (.ptr b o),.iface t2 (.int .i64 c)]=>bif Nat.beq t1 51&&Nat.beq t2 27 then(ld s b o).bind fun q=>bif (match q.1 with|.int .i64 c'=>decide (c'=c)|_=>false)then some (.ret (.bool true),q.2)else none else none
 | _=>none⟩
theorem is_well:KnWell Tryd.prog E0 33 kfIs:=by
 refine⟨fun args=>?_,fun w0 ρ s w args cargs v s' hR hv hg=>?_⟩
 . unfold kfIs
   dsimp only;split
   . rename_i t1 b o t2 c
     have h:LocP fun s=>(ld s b o).bind fun q=>bif (match q.1 with|.int .i64 c'=>decide (c'=c)|_=>false)then some (En.ret (.bool true),q.2)else none:=
      Loc.bind (loc_ld b o) fun q=>Loc.cond (c:=match q with|.int .i64 c'=>decide (c'=c)|_=>false) (LocP.ret _) Loc.none
     exact Loc.cond h Loc.none
   . exact Loc.none
 . unfold kfIs at hg
   dsimp only at hg;split at hg
   . rename_i t1 b o t2 c
     cases hc:(Nat.beq t1 51&&Nat.beq t2 27)with
     | false=>rw[hc]at hg; cases hg
     | true=>
     rw[hc]at hg;simp only[cT,bA,Ev.beq_true,oI]at hg hc;obtain⟨rfl,rfl⟩:=hc;obtain⟨⟨v0,s1⟩,hld,hg⟩:=hg;dsimp only at hg;cases hh:(match v0 with|.int .i64 c'=>decide (c'=c)|_=>false)with
     | false=>rw[hh]at hg; cases hg
     | true=>
     rw[hh]at hg;simp only[cT,oS,pM]at hg;obtain⟨rfl,rfl⟩:=hg;obtain⟨l'⟩:=cargs;cases hv with
     | cons hs ht=>
     cases ht with
     | cons hi hn=>
     cases hn;cases hs with
     | iface hs=>
     cases hi with
     | iface hi=>
     cases hs with
     | @ptr _ _ cb sh sz hρ=>
     cases hi;obtain⟨cv,hcell,hcv,_,hsame⟩:=ld_sim hR hld hρ;split at hh
     . rename_i c'
       have:c'=c:=of_decide_eq_true hh;subst this;cases hcv;refine(X.is_hit ⟨cb,sh+o,none⟩ c' w hcell).mono fun e w' hw=>?_;obtain⟨rfl,rfl⟩:=hw;exact⟨ρ,_,rfl,Rho.le_refl ρ,.bool true,hR.congr hsame.1 hsame.2⟩
     . cases hh
   . cases hg
def KA:=knAdd (fun _=>none) 32 (knAs 51 71 136 24 0 1)
def KX:=knAdd KA 33 kfIs
theorem okX:KnOk Tryd.prog E0 KX:=(knOk_nil.add (as_well (by kernel_rfl) (by kernel_rfl) asOk)).add is_well
end Go.Proofs.YtafbipadnnmccaaDoor.W
namespace Go.Proofs.YtafbipadnnmccaaDoor.W
open Go.Proofs.YtafbipadnnmccaaDoor.Ev Go.RowKit
theorem refX:RefL KX:=by constructor<;>rfl
def Hd (S:St):Prop:=2<=S.next/\∃e,S.heap.get 0=some (.cells e 1 1 true (sG.one2 (Ev.one (.iface 136 (.agg 1 (Ev.one (.ptr 1 24)))))))
theorem Hd.grew {W:Nat->Prop} {S U:St} (h:Hd S) (hW:¬W 0) (g:Grew W S U):Hd U:=by
 obtain⟨h1,e,h2⟩:=h;exact⟨Nat.le_trans h1 g.next,e,by rw[g.keep 0 (by omega) hW]; exact h2⟩
theorem eql24 (x:Nat):qa5 E0 .eql 24 false true (.iface 51 (.ptr x 0)) .niliface=some (.bool false):=by kernel_rfl
theorem eql27c (n:Nat):qa5 E0 .eql 27 false true (.int .i64 (n:Int)) (.int .i64 0)=some (.bool (decide (n=0))):=by
 rw[binV_ii,intsV_eql]
 congr 2
 simp
theorem eql27s (n:Nat):qa5 E0 .eql 27 false false (.int .i64 (n:Int)) (.int .i64 (n:Int))=some (.bool true):=by
 rw[binV_ii,intsV_eql]
 congr 2
 simp
theorem eql3s (n:Nat):qa5 E0 .eql 3 false false (.int .i64 (n:Int)) (.int .i64 (n:Int))=some (.bool true):=by
 rw[binV_ii,intsV_eql]
 congr 2
 simp
theorem flt0 (c n:Nat):(qjx c n).get 0=some (.int .i64 (c:Int)):=by unfold qjx; rw[Tr.get_ofList]; rfl
theorem flt1 (c n:Nat):(qjx c n).get 1=some (.int .i64 (n:Int)):=by unfold qjx; rw[Tr.get_ofList]; rfl
theorem big2:2<big:=by unfold big; decide
theorem pairs_told (q x n0:Nat) (l:List LE):qag [[],[],l,[],[⟨q,0,0+1,false⟩],[],[],[⟨x,0,0+1,false⟩],[],[⟨n0,0,0+1,false⟩],[],[],[],[⟨q,0,0+1,false⟩],[],[],[⟨x,1,1+1,false⟩],[],[⟨n0,1,1+1,false⟩],[],[],[],[],[],[⟨n0,0,0+1,false⟩],[],[⟨x,0,0+1,false⟩],[],[]] [(4,[9]),(7,[9]),(13,[18]),(16,[18])]=true:=by
 have h1:=qat q 0 (0+1) n0 0 (0+1) false (.inl rfl);have h2:=qat x 0 (0+1) n0 0 (0+1) false (.inl rfl);have h3:=qat q 0 (0+1) n0 1 (1+1) false (.inl rfl);have h4:=qat x 1 (1+1) n0 1 (1+1) false (.inl rfl);show(bif (bif qb7 [⟨q,0,0+1,false⟩] [⟨n0,0,0+1,false⟩]then true else false)then false else(bif (bif qb7 [⟨x,0,0+1,false⟩] [⟨n0,0,0+1,false⟩]then true else false)then false else(bif (bif qb7 [⟨q,0,0+1,false⟩] [⟨n0,1,1+1,false⟩]then true else false)then false else(bif (bif qb7 [⟨x,1,1+1,false⟩] [⟨n0,1,1+1,false⟩]then true else false)then false else true))))=true;rw[h1,h2,h3,h4];rfl
structure KnX (K:FuncId->Option KF):Prop where
 r:RefL K
 a:K 32=some (knAs 51 71 136 24 0 1)
 i:K 33=some kfIs
theorem knX:KnX KX:=⟨refX,rfl,rfl⟩
section
variable {K:FuncId->Option KF} {S U T:St}
theorem as_run (hX:KnX K) (m x q:Nat) (hH:Hd S) (ho:S.on=false) (hq:AgAt S q 51 1 (Ev.one .nilptr)) (hq0:q≠0):∃U l,(ev E0 K (m+1)).f 32 [.iface 51 (.ptr x 0),.iface 71 (.ptr q 0)] (onS S)=some (.ret (.bool true),U.lg l)/\AgAt U q 51 1 (Ev.one (.ptr x 0))/\Grew (fun y=>y=q) S U/\U.next=S.next:=by
 obtain⟨U,k1,k2,k3,k4⟩:=hq.st_one ho (.ptr x 0) rfl rfl rfl;obtain⟨hn,e,hb⟩:=hH
 have hstK:stK S q 0 1 (Ev.one (.ptr x 0))=some U:=by
  have h':vu (stK S q 0 1 (Ev.one (.ptr x 0)))=some (.tuple [],U):=k1;unfold vu at h';simp only[oI,oS,pM,true_and]at h';obtain⟨u,hu,rfl⟩:=h';exact hu
 obtain⟨_,l,hl⟩:=stK_lg ho hstK [⟨0,0,0+1,false⟩];refine⟨U,l,?_,k2,k3,k4⟩;rw[ev_known hX.a];show(bif Nat.beq 51 51&&Nat.beq 71 71 then asHit 0 136 1 24 x 0 q 0 (onS S)else none)=_;rw[show(Nat.beq 51 51&&Nat.beq 71 71)=true from rfl,cT];unfold asHit
 have hld:ld (onS S) 0 0=some (.iface 136 (.agg 1 (Ev.one (.ptr 1 24))),S.lg [⟨0,0,0+1,false⟩]):=by
  unfold ld;rw[show(onS S).heap.get 0=_ from hb];rfl
 rw[hld,oB];dsimp only;rw[show qio 136 1 24 (.iface 136 (.agg 1 (Ev.one (.ptr 1 24))))=true by kernel_rfl,cT,hl];rfl
theorem is_run (hX:KnX K) (m b c:Nat) (T:St) {s':St} (h:ld T b 0=some (.int .i64 (c:Int),s')):(ev E0 K (m+1)).f 33 [.iface 51 (.ptr b 0),.iface 27 (.int .i64 (c:Int))] T=some (.ret (.bool true),s'):=by
 rw[ev_known hX.i];show(bif Nat.beq 51 51&&Nat.beq 27 27 then(ld T b 0).bind fun q=>bif (match q.1 with|.int .i64 c'=>decide (c'=(c:Int))|_=>false)then some (En.ret (.bool true),q.2)else none else none)=_;rw[show(Nat.beq 51 51&&Nat.beq 27 27)=true from rfl,cT,h,oB];dsimp only;rw[dT rfl,cT]
theorem told_yes (hX:KnX K) (m:Nat) (ho:S.on=false) (hH:Hd S) {x c n:Nat} (hx:AgAt S x 52 2 (qjx c n)) (hxn:x<S.next) (hc:c≠0):∃U,(ev E0 K (m+2)).f 10 [.iface 51 (.ptr x 0),.agg 2 (qjx c n)] S=some (.ret (.bool true),U)/\Grew (fun _=>False) S U:=by
 obtain⟨n1,n2,n3⟩:=qbx ho 29 2 (qjx c n);have on1:=n2.on.trans ho;have hk:=n1.ld1 on1 big2 (by decide) (flt0 c n);obtain⟨p1,p2,p3⟩:=qbx on1 51 1 (Ev.one .nilptr);have on2:=p2.on.trans on1;have nx1:=n2.next
 have nx2:=p2.next
 have hh:=hH.1;obtain⟨U,l,a1,a2,a3,a4⟩:=as_run hX m x _ ((hH.grew (fun h=>h) n2).grew (fun h=>h) p2) on2 p1 (by omega);have onU:=a3.on.trans on2;have f1:AgAt U S.next 29 2 (qjx c n):=(n1.grew (by omega) (fun h=>h) p2).grew (by omega) (by omega) a3
 have f2:AgAt U x 52 2 (qjx c n):=((hx.grew hxn (fun h=>h) n2).grew (by omega) (fun h=>h) p2).grew (by omega) (by omega) a3;obtain⟨T4,e1,e2,e3,e4⟩:=qeg on2 U [] [[],[],(U.lg l).log,[],(U.lg [⟨(nwP 29 2 (qjx c n) S).2.next,0,0+1,false⟩]).log,[],[],(U.lg [⟨x,0,0+1,false⟩]).log,[],(U.lg [⟨S.next,0,0+1,false⟩]).log,[],[],[],(U.lg [⟨(nwP 29 2 (qjx c n) S).2.next,0,0+1,false⟩]).log,[],[],(U.lg [⟨x,1,1+1,false⟩]).log,[],(U.lg [⟨S.next,1,1+1,false⟩]).log,[],[],[],[],[],(U.lg [⟨S.next,0,0+1,false⟩]).log,[],(U.lg [⟨x,0,0+1,false⟩]).log,[],[]];refine⟨T4,rv10 hX.r ?_,⟨by omega,e4.trans ho.symm,fun y hy hw=>by rw[e2]; exact(a3.keep y (by omega) (by omega)).trans ((p2.keep y (by omega) hw).trans (n2.keep y hy hw))⟩⟩;show F10 (ev E0 K (m+1)) qa3 (.iface 51 (.ptr x 0)) (.agg 2 (qjx c n)) S=_;rw[F10_eq,show ∀T:Tr V,boxK 29 (.agg 2 T) S=some (.ptr S.next 0,(nwP 29 2 T S).2)from fun T=>rfl,oB,eql24,oB];simp only[g_f,nF,b_s,c_t,f_0,hk,eql27c,p_b,c_f];rw[dF hc,i_b,c_f,qbv,a1,qby];have l1:∀L,ld1 (.ptr (nwP 29 2 (qjx c n) S).2.next 0) (U.lg L)=some (.ptr x 0,U.lg (⟨(nwP 29 2 (qjx c n) S).2.next,0,0+1,false⟩::L)):=fun L=>qbb onU (ag1 onU a2) L;have l2:∀L,ld1 (.ptr x 0) (U.lg L)=some (.int .i64 (c:Int),U.lg (⟨x,0,0+1,false⟩::L)):=fun L=>qbb onU (f2.ld1 onU big2 (by decide) (flt0 c n)) L
 have l3:∀L,ld1 (.ptr x 1) (U.lg L)=some (.int .i64 (n:Int),U.lg (⟨x,1,1+1,false⟩::L)):=fun L=>qbb onU (f2.ld1 onU big2 (by decide) (flt1 c n)) L;have l4:∀L,ld1 (.ptr S.next 0) (U.lg L)=some (.int .i64 (c:Int),U.lg (⟨S.next,0,0+1,false⟩::L)):=fun L=>qbb onU (f1.ld1 onU big2 (by decide) (flt0 c n)) L;have l5:∀L,ld1 (.ptr S.next 1) (U.lg L)=some (.int .i64 (n:Int),U.lg (⟨S.next,1,1+1,false⟩::L)):=fun L=>qbb onU (f1.ld1 onU big2 (by decide) (flt1 c n)) L;have o1:∀L,onS (U.lg L)=U.lg []:=fun L=>rfl;have hf1:∀y,faP 1 false 1 (.ptr y 0)=some (.ptr y 1):=fun y=>rfl;simp only[g_t,b_s,c_t,o1,l1,n_k,f_0,l2,l4,eql27s,p_b,hf1,l3,l5,eql3s];rw[is_run hX m x c (U.lg []) (l2 []),qby,qez (show qag [[],[],(U.lg l).log,[],(U.lg [⟨(nwP 29 2 (qjx c n) S).2.next,0,0+1,false⟩]).log,[],[],(U.lg [⟨x,0,0+1,false⟩]).log,[],(U.lg [⟨S.next,0,0+1,false⟩]).log,[],[],[],(U.lg [⟨(nwP 29 2 (qjx c n) S).2.next,0,0+1,false⟩]).log,[],[],(U.lg [⟨x,1,1+1,false⟩]).log,[],(U.lg [⟨S.next,1,1+1,false⟩]).log,[],[],[],[],[],(U.lg [⟨S.next,0,0+1,false⟩]).log,[],(U.lg [⟨x,0,0+1,false⟩]).log,[],[]] [(4,[9]),(7,[9]),(13,[18]),(16,[18])]=true from pairs_told _ x S.next l),show onS (U.lg [(⟨x,0,0+1,false⟩:LE)])=U.lg []from rfl,e1]
end
def mrkS (k:Nat):Bs:=match k with|0=>[]|1=>[113]|2=>[36]|_=>[40]
mutual
def psP:Part->Bs
 | .mk k t o q w=>mrkS k++(if q then [81]else [])++t++o++(if w.isEmpty then []else [60]++psL w++[62])
def psL:List Part->Bs
 | []=>[]
 | p::l=>psP p++(if l.isEmpty then []else [46])++psL l
end
mutual
def depP:Part->Nat
 | .mk _ _ _ _ w=>qcx w+1
def qcx:List Part->Nat
 | []=>0
 | p::l=>max (depP p) (qcx l)
end
theorem faK (i b:Nat):faP i false 1 (.ptr b 0)=some (.ptr b (0+i)):=Eq.trans rfl rfl
theorem build_114:qaa E0 114 [(0,(sv [])),(1,(sv [113])),(2,(sv [36])),(3,(sv [40]))]=some (.agg 4 (Tr.ofListFrom .nil [sv [],sv [113],sv [36],sv [40]] 0)):=by kernel_rfl
theorem mark0:ixV 4 1 false 1 (.agg 4 (Tr.ofListFrom .nil [sv [],sv [113],sv [36],sv [40]] 0)) (.int .i64 0)=some (sv []):=by kernel_rfl
theorem mark1:ixV 4 1 false 1 (.agg 4 (Tr.ofListFrom .nil [sv [],sv [113],sv [36],sv [40]] 0)) (.int .i64 1)=some (sv [113]):=by kernel_rfl
theorem mark2:ixV 4 1 false 1 (.agg 4 (Tr.ofListFrom .nil [sv [],sv [113],sv [36],sv [40]] 0)) (.int .i64 2)=some (sv [36]):=by kernel_rfl
theorem mark3:ixV 4 1 false 1 (.agg 4 (Tr.ofListFrom .nil [sv [],sv [113],sv [36],sv [40]] 0)) (.int .i64 3)=some (sv [40]):=by kernel_rfl
theorem mark_ix (k:Nat):ixV 4 1 false 1 (.agg 4 (Tr.ofListFrom .nil [sv [],sv [113],sv [36],sv [40]] 0)) (.int .i64 (max (min (k:Int) 3) 0))=some (sv (mrkS k)):=by
 match k with
 | 0=>exact mark0
 | 1=>exact mark1
 | 2=>exact mark2
 | k+3=>
  rw[show max (min ((k+3:Nat):Int) 3) 0=3 by omega,show mrkS (k+3)=[40]from rfl];exact mark3
theorem rowP0 (k:Nat) (t o:Bs) (q:Bool) (v:V):(qdn k t o q v).get 0=some (.int .i64 (k:Int)):=by unfold qdn; rw[Tr.get_ofList]; rfl
theorem rowP1 (k:Nat) (t o:Bs) (q:Bool) (v:V):(qdn k t o q v).get 1=some (sv t):=by unfold qdn; rw[Tr.get_ofList]; rfl
theorem rowP2 (k:Nat) (t o:Bs) (q:Bool) (v:V):(qdn k t o q v).get 2=some (sv o):=by unfold qdn; rw[Tr.get_ofList]; rfl
theorem rowP3 (k:Nat) (t o:Bs) (q:Bool) (v:V):(qdn k t o q v).get 3=some (.bool q):=by unfold qdn; rw[Tr.get_ofList]; rfl
theorem rowP4 (k:Nat) (t o:Bs) (q:Bool) (v:V):(qdn k t o q v).get 4=some v:=by unfold qdn; rw[Tr.get_ofList]; rfl
section
variable {K:FuncId->Option KF} {S U T:St}
def PshOk (K:FuncId->Option KF) (d:Nat) (l:List Part):Prop:=∀(S:St) (v:V) (rows:List (Tr V)) (Q:Nat->Prop),S.on=false->RV S v 49 6 rows->PrAt S Q l rows->(∀x,Q x->x<S.next)->(psL l).length<1000000000->∃U,(ev E0 K d).f 36 [v] S=some (.ret (sv (psL l)),U)/\Grew (fun _=>False) S U
theorem qkx (self:EV) (N:Nat) (nk:Ac->St->Rs) (ek:Nat->Ac->St->Rs) (q:Nat) {v:V} {rows:List (Tr V)} (hv:RV S v 49 6 rows) (j:Nat) (hj:j<9223372036854770000) (t:Bs) (ht:t.length<2000000000) (U:St) :
 ((qa5 E0 .add 3 false true (.int .i64 (j:Int)) (.int .i64 1)).bind fun t52=>(lnS v U).bind fun p54=>(qa5 E0 .lss 3 false false t52 p54.1).bind fun t55=>ifK t55 (
   (qa5 E0 .add 9 false true (sv t) (sv [46])).bind fun t57=>(qa5 E0 .add 3 false true (.int .i64 (j:Int)) (.int .i64 1)).bind fun t60=>qg5 self N nk ek q v t57 t60 p54.2) (
   (qa5 E0 .add 3 false true (.int .i64 (j:Int)) (.int .i64 1)).bind fun t63=>qg5 self N nk ek q v (sv t) t63 p54.2))=qg5 self N nk ek q v (sv (t++if j+1<rows.length then [46]else [])) (.int .i64 ((j+1:Nat):Int)) U:=by
 rw[qei (by omega),b_s,hv.len,b_s];dsimp only;rw[qkg,b_s,i_b];by_cases h:j+1<rows.length
 . rw[dT h,c_t,qbg _ _ (by simp; omega),b_s,b_s,iP h]
 . rw[dF h,c_f,b_s,iN h,List.append_nil]
theorem psh_loop (hK:RefL K) (d n:Nat) (ih:∀w,qcx w<n->PshOk K d w) (N:Nat) (nk:Ac->St->Rs) (ek:Nat->Ac->St->Rs) {v:V} {rows:List (Tr V)} {Q:Nat->Prop} :
 ∀(l:List Part) (j q:Nat) (o:Bs) (rest:List (Tr V)) (S:St),S.on=false->RV S v 49 6 rows->(∀x,Q x->x<S.next)->rows.drop j=rest->PrAt S Q l rest->qcx l<=n->l.length<q->(o++psL l).length<1000000000->
 ∃U,qg5 (ev E0 K d) N nk ek q v (sv o) (.int .i64 (j:Int)) S=ek 0 (fr 55 [(3,sv (o++psL l))]) U/\Grew (fun _=>False) S U
 | l,j,0,o,rest,S,_,_,_,_,_,_,hq,_=>by omega
 | [],j,q+1,o,rest,S,ho,hv,hQ,hr,hp,hn,hq,hl=>by
  simp only[PrAt]at hp;rw[hp]at hr;have:=qdu hr;refine⟨S,?_,Grew.refl _ _⟩;rw[L36_6_eq,hv.len,b_s];dsimp only;rw[qkg,dF (by omega),b_s,i_b,c_f,psL,List.append_nil]
 | .mk k t op qd w::l,j,q+1,o,rest,S,ho,hv,hQ,hr,hp,hn,hq,hl=>by
  simp only[PrAt]at hp;obtain⟨c,rest',rfl,hc,hp'⟩:=hp;simp only[PtAt]at hc;obtain⟨v',rows',rfl,hv',hw,hb⟩:=hc;obtain⟨hlt,e1,e2,_⟩:=qey hr;obtain⟨r,hr1,hr2,hr3,hr4⟩:=hv.at hlt;have hg:rows[j]?=some (qdn k t op qd v'):=by rw[List.getElem?_eq_getElem hlt,e1]
  obtain⟨n1,n2,n3⟩:=qbx ho 49 6 (Tr.ofListFrom .nil [(.int .i64 0),(sv []),(sv []),(.bool false),.nilslice,.nilptr] 0);have on1:=n2.on.trans ho;obtain⟨S2,m1,m2,m3,m4⟩:=n1.stA on1 qj4 (qdn k t op qd v');have on2:=m3.on.trans on1;have nx:=n2.next
  have g2:Grew (fun _=>False) S S2:=⟨by omega,on2.trans ho.symm,fun x hx hw=>by rw[m3.keep x (by omega) (by omega)]; exact n2.keep x hx hw⟩
  have hd':qcx w<n:=by
   simp only[qcx,depP]at hn;omega
  have hdl:qcx l<=n:=by
   simp only[qcx]at hn;omega
  have f0:=m2.ld1 on2 qj4 (by decide) (rowP0 k t op qd v');have f1:=m2.ld1 on2 qj4 (by decide) (rowP1 k t op qd v');have f2:=m2.ld1 on2 qj4 (by decide) (rowP2 k t op qd v');have f3:=m2.ld1 on2 qj4 (by decide) (rowP3 k t op qd v');have f4:=m2.ld1 on2 qj4 (by decide) (rowP4 k t op qd v');have hv2:RV S2 v 49 6 rows:=hv.grew (fun _ _ h=>h) g2;have hv'2:RV S2 v' 49 6 rows':=hv'.grew (fun _ _ h=>h) g2;have hw2:PrAt S2 Q w rows':=PrAt.grew g2 (fun _ _ h=>h) hw
  have hj:j<9223372036854770000:=by
   have:=hr3.fit;unfold big at this;omega
  have hsep:(if j+1<rows.length then [46]else []:Bs)=if l.isEmpty then []else [46]:=by
   have:rest'.length=l.length:=hp'.len;have e3:=congrArg List.length e2;rw[List.length_drop]at e3;cases l with
   | nil=>rw[iN (by rw[List.length_nil]at this; rw[this]at e3; omega)]; rfl
   | cons a l=>rw[iP (by rw[List.length_cons]at this; omega)]; rfl
  rw[psL,psP]at hl;simp only[lAq]at hl
  have hmk:(mrkS k).length<=1:=by
   unfold mrkS;split<;>simp
  have hE:qg5 (ev E0 K d) N nk ek (q+1) v (sv o) (.int .i64 (j:Int)) S=_:=L36_6_eq ..;rw[hv.len,b_s]at hE;dsimp only at hE;rw[qkg,dT hlt,b_s,i_b,c_t,hr2,b_s,rv_ldA ho hr3 hg,b_s]at hE;dsimp only at hE;rw[b_s,qbv,m1,b_s,build_114,b_s]at hE;dsimp only at hE;rw[faK,b_s,f0,b_s]at hE;dsimp only at hE;rw[foldK_min,b_s]at hE;dsimp only at hE;rw[foldK_max,b_s]at hE;dsimp only at hE;rw[mark_ix,b_s,faK,b_s,f3,b_s]at hE;dsimp only at hE;rw[i_b]at hE
  have fin:∀(tx:Bs) (U:St),Grew (fun _=>False) S2 U->tx=o++psP (.mk k t op qd w)->qg5 (ev E0 K d) N nk ek (q+1) v (sv o) (.int .i64 (j:Int)) S=qg5 (ev E0 K d) N nk ek q v (sv (tx++if j+1<rows.length then [46]else [])) (.int .i64 ((j+1:Nat):Int)) U->
   ∃U,qg5 (ev E0 K d) N nk ek (q+1) v (sv o) (.int .i64 (j:Int)) S=ek 0 (fr 55 [(3,sv (o++psL (.mk k t op qd w::l)))]) U/\Grew (fun _=>False) S U:=fun tx U g htx he=>by
   subst htx;have g3:=g2.trans g
   obtain⟨T,t1,t2⟩:=psh_loop hK d n ih N nk ek l (j+1) q (o++psP (.mk k t op qd w)++if l.isEmpty then []else [46]) rest' U (g3.on.trans ho) (hv.grew (fun _ _ h=>h) g3) (fun x hx=>Nat.lt_of_lt_of_le (hQ x hx) g3.next) e2 (PrAt.grew g3 (fun _ _ h=>h) hp') hdl (by simp only[List.length_cons]at hq; omega) (by
    simp only[lAq,psP]
    omega)
   refine⟨T,?_,g3.trans t2⟩;rw[he,hsep,t1,psL];simp only[List.append_assoc]
  have hlen:∀(T:St),lnS v' T=some (.int .i64 (rows'.length:Int),T):=hv'.len;have hwl:=hw.len
  have hgt:qa5 E0 .gtr 3 false true (.int .i64 (rows'.length:Int)) (.int .i64 0)=some (.bool (!w.isEmpty)):=by
   rw[show(V.int .i64 0)=.int .i64 ((0:Nat):Int)from rfl,binV_ii,intsV_gtr,hwl]
   congr 2
   cases w<;>simp
  cases qd with
  | true=>
   rw[c_t,qbg _ _ (by simp; omega),b_s,qbg _ _ (by simp; omega),b_s,faK,b_s,f1,b_s]at hE;dsimp only at hE;rw[qbg _ _ (by simp; omega),b_s,faK,b_s,f2,b_s]at hE;dsimp only at hE;rw[qbg _ _ (by simp; omega),b_s,faK,b_s,f4,b_s]at hE;dsimp only at hE;rw[hlen,b_s]at hE;dsimp only at hE;rw[hgt,b_s,i_b]at hE;cases hw0:w.isEmpty with
   | true=>
    rw[hw0,Bool.not_true,c_f,qkx _ _ _ _ _ hv _ hj _ (by simp; omega)]at hE;exact fin _ _ (Grew.refl _ _) (by rw[psP,hw0]; simp) hE
   | false=>
    rw[hw0]at hl;simp only[Bool.false_eq_true,if_false,lAq,List.length_singleton]at hl;obtain⟨T,t1,t2⟩:=ih w hd' S2 v' rows' Q on2 hv'2 hw2 (fun x hx=>Nat.lt_of_lt_of_le (hQ x hx) g2.next) (by omega);rw[hw0,nF,c_t,qbg _ _ (by simp; omega),b_s,b_s,f4,b_s]at hE;dsimp only at hE;rw[t1,callP_ret,qbg _ _ (by simp; omega),b_s,qbg _ _ (by simp; omega),b_s,qkx _ _ _ _ _ hv _ hj _ (by simp; omega)]at hE;exact fin _ _ t2 (by rw[psP,hw0]; simp) hE
  | false=>
   rw[c_f,qbg _ _ (by omega),b_s,faK,b_s,f1,b_s]at hE;dsimp only at hE;rw[qbg _ _ (by simp; omega),b_s,faK,b_s,f2,b_s]at hE;dsimp only at hE;rw[qbg _ _ (by simp; omega),b_s,faK,b_s,f4,b_s]at hE;dsimp only at hE;rw[hlen,b_s]at hE;dsimp only at hE;rw[hgt,b_s,i_b]at hE;cases hw0:w.isEmpty with
   | true=>
    rw[hw0,Bool.not_true,c_f,qkx _ _ _ _ _ hv _ hj _ (by simp; omega)]at hE;exact fin _ _ (Grew.refl _ _) (by rw[psP,hw0]; simp) hE
   | false=>
    rw[hw0]at hl;simp only[Bool.false_eq_true,if_false,lAq,List.length_singleton]at hl;obtain⟨T,t1,t2⟩:=ih w hd' S2 v' rows' Q on2 hv'2 hw2 (fun x hx=>Nat.lt_of_lt_of_le (hQ x hx) g2.next) (by omega);rw[hw0,nF,c_t,qbg _ _ (by simp; omega),b_s,b_s,f4,b_s]at hE;dsimp only at hE;rw[t1,callP_ret,qbg _ _ (by simp; omega),b_s,qbg _ _ (by simp; omega),b_s,qkx _ _ _ _ _ hv _ hj _ (by simp; omega)]at hE;exact fin _ _ t2 (by rw[psP,hw0]; simp) hE
theorem psh_run (hK:RefL K) (m:Nat):∀(n:Nat) (l:List Part),qcx l<=n->PshOk K (m+n+1) l
 | n,l,hn=>by
  intro S v rows Q ho hv hp hQ hl
  have ih:∀w,qcx w<n->PshOk K (m+n) w:=fun w hw=>by
   obtain⟨n',rfl⟩:∃n',n=n'+1:=⟨n-1,by omega⟩
   exact psh_run hK m n' w (by omega)
  have hlq:l.length<qa3:=by
   have h1:=hp.len;rcases hv with⟨h,_⟩|⟨r,h2,_,_,_⟩
   . rw[h]at h1
     simp at h1;unfold qa3;omega
   . have:=h2.fit
     unfold big at this;unfold qa3;omega
  obtain⟨U,u1,u2⟩:=psh_loop hK (m+n) n ih qa3 (R36_2 (ev E0 K (m+n)) qa3 (qcn E0 (ev E0 K (m+n)) Tryd.f36) qb0) (exB 0 (R36_2 (ev E0 K (m+n)) qa3 (qcn E0 (ev E0 K (m+n)) Tryd.f36) qb0) qb0) l 0 qa3 [] rows S ho hv hQ rfl hp hn hlq (by simpa using hl);refine⟨U,rv36 hK ?_,u2⟩;show F36 (ev E0 K (m+n)) qa3 v S=_;rw[F36_eq,show(V.int .i64 0)=.int .i64 ((0:Nat):Int)from rfl,u1,exB_same,R36_2_eq,List.nil_append]
end
end Go.Proofs.YtafbipadnnmccaaDoor.W
end
