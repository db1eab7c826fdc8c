/-
  WHAT THE FUNCTIONS COME TO: each is read by the evaluator,printed,and told as a function of data,part 10 of 13 (no condition).
-/
import Derived.Test.YtafbipadnnmccaaDoorW9
import Derived.ProofKit
noncomputable section
namespace Go.Proofs.YtafbipadnnmccaaDoor.W
open Go.Proofs.YtafbipadnnmccaaDoor.Ev Go.RowKit
theorem proj8 (v0 v2 v3 v4 v5:V) (ds:List AD) (k:Ac->Rs):qb8 [0,2,3,4,5] (frD 62 [(0,v0),(2,v2),(3,v3),(4,v4),(5,v5)] ds) k=k (frD 62 [(0,v0),(2,v2),(3,v3),(4,v4),(5,v5)] ds):=by kernel_rfl
section
variable {K:FuncId->Option KF} {S U T:St} {i M:Nat} {s:Bs} {toks:List Tok} {waits:List (Nat×Bs)} {vT vW:V}
abbrev StR (o:Rd) (S:St) (M:Nat) (s:Bs) (i:Nat) (toks:List Tok) (waits:List (Nat×Bs)) (vT vW:V) (r:Rs) (rn ro:St->Rs):Prop:=match o with
 | none=>∃U,r=rn U/\LS U (M+4) (M+2) s i toks waits vT vW/\Grew (fun _=>False) S U
 | some (.ok q)=>∃U vT' vW',r=ro U/\LS U (M+4) (M+2) s q.1 q.2.1 q.2.2 vT' vW'/\Grew (fun x=>x=M+2\/M+4<=x) S U
 | some (.error e)=>LexR (.error e) S M r
abbrev AllR (o:Except Flt (Nat×List Tok×List (Nat×Bs))) (S:St) (M:Nat) (s:Bs) (r:Rs) (ro:St->Rs):Prop:=match o with
 | .ok q=>∃U vT' vW',r=ro U/\LS U (M+4) (M+2) s q.1 q.2.1 q.2.2 vT' vW'/\Grew (fun x=>x=M+2\/M+4<=x) S U
 | .error e=>LexR (.error e) S M r
theorem AllR.step {o:Except Flt (Nat×List Tok×List (Nat×Bs))} {r r':Rs} {ro:St->Rs} (hr:r=r') (g:Grew (fun _=>False) S T) (h:AllR o T M s r' ro):AllR o S M s r ro:=by
 subst hr;cases o with
 | ok q=>
  obtain⟨U,vT',vW',b1,b2,b3⟩:=h;exact⟨U,vT',vW',b1,b2,(g.mono fun x _ hx=>hx.elim).trans b3⟩
 | error e=>exact LexR.after (o:=.error e) (g.mono fun x _ hx=>hx.elim) h
theorem StR.all {o:Except Flt (Nat×List Tok×List (Nat×Bs))} {r:Rs} {rn ro:St->Rs} (h:StR (some o) S M s i toks waits vT vW r rn ro):AllR o S M s r ro:=by
 cases o with
 | ok q=>exact h
 | error e=>exact h
theorem Lx.w3f {b:Nat} (ho:S.on=false) (h:Lx S b s i vT vW):ld1 (.ptr b 3) S=some (vW,S):=by
 obtain⟨t,h1,_,_,_,h2⟩:=h.ex;exact h1.ld1 ho big4 (by decide) h2
theorem Lx.t2f {b:Nat} (ho:S.on=false) (h:Lx S b s i vT vW):ld1 (.ptr b 2) S=some (vT,S):=by
 obtain⟨t,h1,_,_,h2,_⟩:=h.ex;exact h1.ld1 ho big4 (by decide) h2
theorem rd_step {self:EV} {o:Rd} {p q f:Nat} {nk:Ac->St->Rs} {ek:Nat->Ac->St->Rs} (h:LS S (M+4) (M+2) s i toks waits vT vW) (hE:Env8 S M) (hp:p<4) (hf:(fnRow M)[p]?=some (.fn (.func f) [.ptr (M+2) 0] [])) (hx:E0.ext.get f=none) (hb:qd9 E0 f=true) (hr:RdR o S (M+4) (M+2) s i toks waits vT vW (self.f f [.ptr (M+2) 0] S)) (v0:V) :
 StR o S M s i toks waits vT vW (L8_58 self qa3 nk ek (q+1) (ds8 M) v0 (.ptr M 0) (.ptr (M+1) 0) (.ptr (M+2) 0) (.slice (M+3) 0 4 4) (.slice (M+3) 0 4 4) (.int .i64 4) (.int .i64 (p:Int)) S) (fun U=>L8_58 self qa3 nk ek q (ds8 M) v0 (.ptr M 0) (.ptr (M+1) 0) (.ptr (M+2) 0) (.slice (M+3) 0 4 4) (.slice (M+3) 0 4 4) (.int .i64 4) (.int .i64 ((p+1:Nat):Int)) U) (fun U=>ek 4 (frD 62 [(0,v0),(2,.ptr M 0),(3,.ptr (M+1) 0),(4,.ptr (M+2) 0),(5,.slice (M+3) 0 4 4)] (ds8 M)) U):=by
 generalize hR:L8_58 self qa3 nk ek (q+1) (ds8 M) v0 (.ptr M 0) (.ptr (M+1) 0) (.ptr (M+2) 0) (.slice (M+3) 0 4 4) (.slice (M+3) 0 4 4) (.int .i64 4) (.int .i64 (p:Int)) S=R;rw[L8_58_eq,show V.int .i64 4=.int .i64 ((4:Nat):Int)from rfl,qk5,oB,dT hp,ifK_bool,cT,ixP_sl _ _ _ hp,oB]at hR;have hg:((fnRow M).map Ev.one)[p]?=some (Ev.one (.fn (.func f) [.ptr (M+2) 0] [])):=by rw[List.getElem?_map,hf]; rfl
 have hld:ld1 (.ptr (M+3) p) S=some (.fn (.func f) [.ptr (M+2) 0] [],S):=hE.r.ld1 h.on hg;rw[hld,oB]at hR;dsimp only at hR;rw[qkq hx hb,show [V.ptr (M+2) 0]++[]++[]=[V.ptr (M+2) 0]from rfl]at hR;have hhi:=h.hi;cases o with
 | none=>
  obtain⟨U,r1,r2,r3⟩:=hr;rw[r1,qch,ifK_bool,cF,qff (by omega),oB]at hR;exact⟨U,hR.symm,r2,r3⟩
 | some r=>
  cases r with
  | ok r=>
   obtain⟨U,vT',vW',r1,r2,r3⟩:=hr;rw[r1,qch,ifK_bool,cT]at hR;exact⟨U,vT',vW',hR.symm,r2,r3⟩
  | error e=>
   rw[<- hR];exact bad_lex (by rfl) (by kernel_rfl) (by kernel_rfl) h.on hhi hE hr
theorem rd_all (hK:RefL K) (d q:Nat) {nk:Ac->St->Rs} {ek:Nat->Ac->St->Rs} (h:LS S (M+4) (M+2) s i toks waits vT vW) (hE:Env8 S M) (hI:Inv s i toks waits) (hs:s.length<=5000) (hi:i<s.length) (hd:18*s.length+600<=d) (v0:V) :
 AllR (qju s i toks waits) S M s (L8_58 (ev E0 K (d+20)) qa3 nk ek (q+5) (ds8 M) v0 (.ptr M 0) (.ptr (M+1) 0) (.ptr (M+2) 0) (.slice (M+3) 0 4 4) (.slice (M+3) 0 4 4) (.int .i64 4) (.int .i64 0) S) (fun U=>ek 4 (frD 62 [(0,v0),(2,.ptr M 0),(3,.ptr (M+1) 0),(4,.ptr (M+2) 0),(5,.slice (M+3) 0 4 4)] (ds8 M)) U):=by
 have tl:=hI.t;have wl:=hI.w;have htx:∀x∈toks,x.text.length<9223372036854770000:=fun x hx=>by have:=hI.tx x hx; omega
 have s1:=rd_step (p:=0) (q:=q+4) (f:=19) (nk:=nk) (ek:=ek) h hE (by omega) rfl (by kernel_rfl) (by kernel_rfl) (line_run hK (d+9) h hs hi (by omega) (by omega) hI.ix (by omega)) v0;rw[show((0:Nat):Int)=0 from rfl]at s1;unfold qju;cases hl:linD s i toks waits with
 | some r=>
  rw[hl]at s1;exact StR.all s1
 | none=>
  rw[hl]at s1;obtain⟨U1,a1,a2,a3⟩:=s1;have hh:=h.hi;have e1:=hE.grew hh a3 (fun x hx=>hx.elim);refine AllR.step a1 a3 ?_;have s2:=rd_step (p:=1) (q:=q+3) (f:=20) (nk:=nk) (ek:=ek) a2 e1 (by omega) rfl (by kernel_rfl) (by kernel_rfl) (remark_run hK (d+14) a2 hs hi) v0;cases hr:remD s i toks waits with
  | some r=>
   rw[hr]at s2;exact StR.all s2
  | none=>
   rw[hr]at s2;obtain⟨U2,b1,b2,b3⟩:=s2;have e2:=e1.grew a2.hi b3 (fun x hx=>hx.elim);refine AllR.step b1 b3 ?_;have s3:=rd_step (p:=2) (q:=q+2) (f:=21) (nk:=nk) (ek:=ek) b2 e2 (by omega) rfl (by kernel_rfl) (by kernel_rfl) (mark_run hK (d+11) b2 hs hi (by omega)) v0;cases hm:mrkD s i toks waits with
   | some r=>
    rw[hm]at s3;exact StR.all s3
   | none=>
    rw[hm]at s3;obtain⟨U3,c1,c2,c3⟩:=s3;have e3:=e2.grew b2.hi c3 (fun x hx=>hx.elim);refine AllR.step c1 c3 ?_;exact StR.all (rd_step (p:=3) (q:=q+1) (f:=22) (nk:=nk) (ek:=ek) c2 e3 (by omega) rfl (by kernel_rfl) (by kernel_rfl) (word_run hK (d+17) c2 hs hi (by omega) (by omega) htx (by omega)) v0)
theorem lex_loop (hK:RefL K) (d:Nat) (hs:s.length<=5000) (hd:18*s.length+600<=d) :
 ∀(n q i:Nat) (toks:List Tok) (waits:List (Nat×Bs)) (vT vW:V) (S:St),LS S (M+4) (M+2) s i toks waits vT vW->Env8 S M->Inv s i toks waits->i<=s.length->s.length+1<=n+i->n<q->
 LexR (qm9 n s i toks waits) S M (L8_50 (ev E0 K (d+20)) qa3 (R8_28 (ev E0 K (d+20)) qa3 (qbu E0 (ev E0 K (d+20)) Tryd.f8) qav) (exB 0 (R8_28 (ev E0 K (d+20)) qa3 (qbu E0 (ev E0 K (d+20)) Tryd.f8) qav) qav) q (ds8 M) (sv s) (.ptr M 0) (.ptr (M+1) 0) (.ptr (M+2) 0) (.slice (M+3) 0 4 4) S)
 | n,0,i,toks,waits,vT,vW,S,h,hE,hI,hi,hn,hq=>absurd hq (Nat.not_lt_zero _)
 | 0,q+1,i,toks,waits,vT,vW,S,h,hE,hI,hi,hn,hq=>by omega
 | n+1,q+1,i,toks,waits,vT,vW,S,h,hE,hI,hi,hn,hq=>by
  have ih:=lex_loop hK d hs hd n q;generalize hNK:R8_28 (ev E0 K (d+20)) qa3 (qbu E0 (ev E0 K (d+20)) Tryd.f8) qav=NK at ih ⊢;rw[L8_50_eq,qf7];obtain⟨U,k1,k2,k3⟩:=ski_run hK (d+16) hs (R8_51 (ev E0 K (d+20)) qa3 (qih (ev E0 K (d+20)) qa3 NK (exB 0 NK qav) q) (exB 1 (qih (ev E0 K (d+20)) qa3 NK (exB 0 NK qav) q) (exB 0 NK qav))) (exB 2 (R8_51 (ev E0 K (d+20)) qa3 (qih (ev E0 K (d+20)) qa3 NK (exB 0 NK qav) q) (exB 1 (qih (ev E0 K (d+20)) qa3 NK (exB 0 NK qav) q) (exB 0 NK qav))) (exB 1 (qih (ev E0 K (d+20)) qa3 NK (exB 0 NK qav) q) (exB 0 NK qav))) (ds8 M) (sv s) (.ptr M 0) (.ptr (M+1) 0) (.slice (M+3) 0 4 4) (s.length+1) i qa3 S h hi (by omega) (by unfold qa3; omega);obtain⟨i1,i2,i3⟩:=qj9 (s.length+1) s i hi (by omega);generalize qgz (s.length+1) s i=i' at *;have hh:=h.hi;have eU:=hE.grew hh k3 (fun x hx=>.inl hx);have gU:Grew (fun x=>M<=x) S U:=k3.mono fun x _ hx=>by omega
  have hIU:Inv s i' toks waits:=⟨by have:=hI.t; omega,by have:=hI.w; omega,hI.ix,hI.tx⟩
  rw[k1,exB_same,R8_51_eq,qed hK (d+19) k2.on k2.lx,qch,qhi,oB,ifK_bool];refine LexR.after gU ?_;by_cases hlt:i'<s.length
  . rw[dT hlt,Bool.not_true,cF,iP hlt,show lnS (.slice (M+3) 0 4 4) U=some (.int .i64 4,U)from rfl,oB]
    dsimp only;have hra:=rd_all hK d (qa3-5) (nk:=fun a s=>qb8 [0,2,3,4,5] a fun a=>qih (ev E0 K (d+20)) qa3 NK (exB 0 NK qav) q a s) (ek:=exB 4 (fun a s=>qb8 [0,2,3,4,5] a fun a=>qih (ev E0 K (d+20)) qa3 NK (exB 0 NK qav) q a s) (exB 1 (qih (ev E0 K (d+20)) qa3 NK (exB 0 NK qav) q) (exB 0 NK qav))) k2 eU hIU hs hlt hd (sv s);rw[show qa3-5+5=qa3 by unfold qa3; omega]at hra;cases hst:qju s i' toks waits with
    | error e=>
     rw[hst]at hra;exact hra
    | ok r=>
     rw[hst]at hra;obtain⟨U2,vT',vW',b1,b2,b3⟩:=hra;obtain⟨j1,j2,j3⟩:=stepD_inv hIU hlt (i3 hlt).1 (i3 hlt).2 hst;rw[b1];dsimp only;rw[exB_same,proj8,N8_50_eq];exact LexR.after (b3.mono fun x _ hx=>by omega) (ih r.1 r.2.1 r.2.2 vT' vW' U2 b2 (eU.grew k2.hi b3 (fun x hx=>hx)) j3 j2 (by omega) (by omega))
  . rw[dF hlt,nF,cT,iN hlt]
    rw[show ∀(A:Ac->St->Rs) (B:Nat->Ac->St->Rs) (a:Ac) (X:St),exB 1 A B 0 a X=B 0 a X from fun _ _ _ _=>rfl,exB_same,<- hNK,R8_28_eq,nilK,oB,show faP 3 false 1 (.ptr (M+2) 0)=some (.ptr (M+2) 3)from rfl,oB,k2.lx.w3f k2.on,oB];dsimp only;rw[k2.wt.len,oB,lM];dsimp only;rw[gtr0,oB,ifK_bool];by_cases hw:waits=[]
    . subst hw
      rw[iP rfl,show decide (0<([]:List (Nat×Bs)).length)=false from rfl,cF,oB,show faP 2 false 1 (.ptr (M+2) 0)=some (.ptr (M+2) 2)from rfl,oB,k2.lx.t2f k2.on,oB];dsimp only;obtain⟨rT,r1,r2⟩:=k2.tk;obtain⟨q1,q2,q3⟩:=qka r1;obtain⟨T2,c1,c2,c3,c4⟩:=eU.d.st_one k2.on vT q1 q2 q3;have on2:=c3.on.trans k2.on;have hh2:=k2.hi;have e2:AgAt T2 (M+1) 24 1 (Ev.one .niliface):=eU.e.grew (by omega) (by omega) c3;obtain⟨T3,d1,d2,d3,d4⟩:=e2.st_one on2 .niliface rfl rfl rfl;rw[c1,oB];dsimp only;rw[d1,oB];dsimp only;rw[fin8 (pd:=M) (pe:=M+1) (by rfl) (by kernel_rfl) (by kernel_rfl) (d3.on.trans on2) (c2.grew (by omega) (by omega) d3) d2];have hvb:∀r,qah vT=some r->M+4<=r:=fun r hr=>(k2.tb r hr).1;refine⟨T3,vT,rT,rfl,(r1.grew (fun r hr hx=>by have:=hvb r hr; omega) c3).grew (fun r hr hx=>by have:=hvb r hr; omega) d3,((r2.grew c3 fun x hx he=>by omega).grew d3 fun x hx he=>by omega).mono fun x hx=>⟨by omega,by omega⟩,fun r hr=>by have:=hvb r hr; omega,(c3.mono fun x _ hx=>by omega).trans (d3.mono fun x _ hx=>by omega)⟩
    . have hpos:0<waits.length:=List.length_pos_iff.2 hw
      rw[iN hw,dT hpos,cT,lnStr_sv,oB];dsimp only;exact bad_lex (by rfl) (by kernel_rfl) (by kernel_rfl) k2.on k2.hi eU (bad0 (qc4 hK (d+19) k2.on 19 s.length))
end
theorem build_52l:qab E0 52 [(0,(.int .i64 3)),(1,(.int .i64 4000))]=some (.agg 2 (qk3 3 4000)):=by kernel_rfl
theorem build_lx0 (s:Bs):qab E0 57 [(0,sv s)]=some (.agg 4 (Tr.ofListFrom .nil [sv s,.int .i64 0,.nilslice,.nilslice] 0)):=by kernel_rfl
section
variable {K:FuncId->Option KF} {S U T:St} {s:Bs}
theorem lex_run (hK:RefL K) (d:Nat) (s:Bs) (ho:S.on=false) (hs:s.length<=5000) (hd:18*s.length+600<=d):LexR (qif s) S S.next ((ev E0 K (d+21)).f 8 [sv s] S):=by
 have hF:∀r,F8 (ev E0 K (d+20)) qa3 (sv s) S=some r->(ev E0 K (d+21)).f 8 [sv s] S=some r:=fun r e=>rv8 hK e
 suffices hq:LexR (qif s) S S.next (F8 (ev E0 K (d+20)) qa3 (sv s) S) by
  cases ho:qif s with
  | ok t=>
   rw[ho]at hq;obtain⟨U,v,rT,h1,h2⟩:=hq;exact⟨U,v,rT,hF _ h1,h2⟩
  | error e=>
   rw[ho]at hq;obtain⟨U,x,h1,h2⟩:=hq;exact⟨U,x,hF _ h1,h2⟩
 obtain⟨a1,a2,a3⟩:=qbp ho 22 1 (Ev.one .nilslice);have on1:=a2.on.trans ho;obtain⟨b1,b2,b3⟩:=qbp on1 24 1 (Ev.one .niliface);have on2:=b2.on.trans on1;have g2:Grew (fun x=>S.next<=x) S (nwP 24 1 (Ev.one .niliface) (nwP 22 1 (Ev.one .nilslice) S).2).2:=(a2.mono fun _ _ h=>h.elim).trans (b2.mono fun _ _ h=>h.elim);have n2:(nwP 24 1 (Ev.one .niliface) (nwP 22 1 (Ev.one .nilslice) S).2).2.next=S.next+2:=by rw[b3,a3]
 rw[a3]at b1;have d0:AgAt (nwP 24 1 (Ev.one .niliface) (nwP 22 1 (Ev.one .nilslice) S).2).2 S.next 22 1 (Ev.one .nilslice):=a1.grew (by omega) (fun h=>h) b2
 rw[F8_eq,oB,oB,qbs,qbs,a3,lnStr_sv,oB];dsimp only;rw[show(V.int .i64 4000)=.int .i64 ((4000:Nat):Int)from rfl,binV_ii,intsV_gtr,oB,ifK_bool];generalize (nwP 24 1 (Ev.one .niliface) (nwP 22 1 (Ev.one .nilslice) S).2).2=S2 at *;unfold qif;by_cases hl:4000<s.length
 . rw[iP hl,show decide (((s.length:Nat):Int)>((4000:Nat):Int))=true by simp; omega,cT,show qab E0 52 [(0,(.int .i64 3)),(1,(.int .i64 ((4000:Nat):Int)))]=some (.agg 2 (qk3 3 4000))from build_52l,oB,show ∀T:Tr V,boxK 52 (.agg 2 T) S2=some (.ptr S2.next 0,(nwP 52 2 T S2).2)from fun T=>rfl,oB]
   dsimp only;obtain⟨c1,c2,c3⟩:=qbp on2 52 2 (qk3 3 4000);have on3:=c2.on.trans on2;obtain⟨S4,e1,e2,e3,e4⟩:=(d0.grew (by omega) (fun h=>h) c2).st_one on3 .nilslice rfl rfl rfl;have on4:=e3.on.trans on3;have hb4:AgAt S4 (S.next+1) 24 1 (Ev.one .niliface):=(b1.grew (by omega) (fun h=>h) c2).grew (by omega) (by omega) e3;obtain⟨S5,f1,f2,f3,f4⟩:=hb4.st_one on4 (.iface 51 (.ptr S2.next 0)) rfl rfl rfl;rw[e1,oB];dsimp only;rw[f1,oB];dsimp only;rw[(e2.grew (by omega) (by omega) f3).ldr_one (f3.on.trans on4),oB];dsimp only;rw[f2.ldr_one (f3.on.trans on4),oB];exact⟨S5,S2.next,rfl,(c1.grew (by omega) (by omega) e3).grew (by omega) (by omega) f3,by omega,by omega,((g2.trans (c2.mono fun _ _ h=>h.elim)).trans (e3.mono fun x _ hx=>by omega)).trans (f3.mono fun x _ hx=>by omega)⟩
 . rw[iN hl,show decide (((s.length:Nat):Int)>((4000:Nat):Int))=false by simp; omega,cF,build_lx0,oB,show ∀T:Tr V,boxK 57 (.agg 4 T) S2=some (.ptr S2.next 0,(nwP 57 4 T S2).2)from fun T=>rfl,oB]
   dsimp only;obtain⟨c1,c2,c3⟩:=qbp on2 57 4 (Tr.ofListFrom .nil [sv s,.int .i64 0,.nilslice,.nilslice] 0);have on3:=c2.on.trans on2;have lx3:Lx (nwP 57 4 (Tr.ofListFrom .nil [sv s,.int .i64 0,.nilslice,.nilslice] 0) S2).2 S2.next s 0 .nilslice .nilslice:=⟨_,c1,by kernel_rfl,by kernel_rfl,by kernel_rfl,by kernel_rfl⟩
   have d3:=d0.grew (by omega) (fun h=>h) c2;have b4:=b1.grew (by omega) (fun h=>h) c2;have g3:=g2.trans (c2.mono fun x _ h=>(h.elim:S.next<=x));generalize (nwP 57 4 (Tr.ofListFrom .nil [sv s,.int .i64 0,.nilslice,.nilslice] 0) S2).2=S3 at *
   obtain⟨S4,e1,e2,e3,e4⟩:=bsP_ones on3 34 (Ev.one .nilfn) (fnRow S.next) (fun v hv=>by
    unfold fnRow at hv;simp only[List.mem_cons,List.not_mem_nil,or_false]at hv
    rcases hv with rfl|rfl|rfl|rfl<;>exact⟨rfl,rfl,rfl,rfl⟩) (by show 4<big; unfold big; decide)
   have hbs:bsP 34 1 4 (Ev.one .nilfn) [(0,(.fn (.func 19) [.ptr (S.next+2) 0] [])),(1,(.fn (.func 20) [.ptr (S.next+2) 0] [])),(2,(.fn (.func 21) [.ptr (S.next+2) 0] [])),(3,(.fn (.func 22) [.ptr (S.next+2) 0] []))] S3=some (.slice S3.next 0 4 4,S4):=e1 none;have n3:S3.next=S.next+3:=by rw[c3,n2]
   have n4:S4.next=S.next+4:=by rw[e4,n3]
   rw[n2,hbs,oB,n3,adOf_fn];dsimp only;rw[n2]at lx3;rw[n3]at e2;have on4:=e3.on.trans on3;have L4:LS S4 (S.next+4) (S.next+2) s 0 [] [] .nilslice .nilslice:=⟨on4,by omega,by omega,lx3.grew (by omega) (fun h=>h) e3,⟨[],.inl ⟨rfl,rfl⟩,rfl,fun i t ht=>by simp at ht⟩,.inl ⟨rfl,rfl⟩,(fun r hr=>by cases hr),(fun r hr=>by cases hr)⟩
   have E4:Env8 S4 S.next:=⟨d3.grew (by omega) (fun h=>h) e3,b4.grew (by omega) (fun h=>h) e3,e2⟩
   have I4:Inv s 0 [] []:=⟨lR _,lR _,(fun w hw=>by cases hw),(fun x hx=>by cases hx)⟩
   exact LexR.after (g3.trans (e3.mono fun x _ h=>h.elim)) (lex_loop hK d hs hd (s.length+1) qa3 0 [] [] .nilslice .nilslice S4 L4 E4 I4 (Nat.zero_le _) (by omega) (by unfold qa3; omega))
end
open Go.Proofs
theorem E1_ok:EnvOk Tryd.prog (envOf Tryd.prog [7,8,28,29,38,39,43,48,49,52,56,57,80,81,88,89,114,156,157,158,159,163,178,179,185,186,187,188,189,190] [(81,4),(82,105),(84,3),(97,1)] []):=envOf_ok (by kernel_rfl) (by kernel_rfl) (by kernel_rfl) (fun p hp=>by
 simp only[List.mem_cons,List.not_mem_nil,or_false]at hp;rcases hp with rfl|rfl|rfl|rfl
 . exact⟨fun h=>absurd h (by decide),fun h=>absurd h (by decide),fun h=>absurd h (by decide),fun _ args w=>by kernel_rfl,fun h=>absurd h (by decide)⟩
 . exact⟨fun h=>absurd h (by decide),fun h=>absurd h (by decide),fun h=>absurd h (by decide),fun h=>absurd h (by decide),fun _=>⟨Tryd.f82.params,Tryd.f82.resultTypes,Tryd.f82.resultTypes.getD 0 0,by kernel_rfl,by kernel_rfl,fun args w=>by kernel_rfl⟩⟩
 . exact⟨fun h=>absurd h (by decide),fun h=>absurd h (by decide),fun _ args w=>by kernel_rfl,fun h=>absurd h (by decide),fun h=>absurd h (by decide)⟩
 . exact⟨fun _ args w=>by kernel_rfl,fun h=>absurd h (by decide),fun h=>absurd h (by decide),fun h=>absurd h (by decide),fun h=>absurd h (by decide)⟩
 ) (by kernel_rfl) (by kernel_rfl) (by kernel_rfl)
theorem envOk_glob {P:Program} {E:Env} (h:EnvOk P E) (g:Tr Nat):EnvOk P {E with glob:=g}:=⟨h.tys,h.fns,h.call,h.ext,h.noExt,h.plain,h.mixed,h.lie,h.depth⟩
theorem E0_ok:EnvOk Tryd.prog E0:=envOk_glob E1_ok _
theorem globs:∀g b,E0.glob.get g=some b->(g=0/\b=0)\/(g=4/\b=1):=fun g b h=>by
 have h':(kinds [((0:Nat),(0:Nat)),(4,1)]).get g=some b:=h;have:=qiu h';simp only[List.mem_cons,List.not_mem_nil,or_false,pM]at this;exact this
theorem run_put (t e:Addr) (old:Value) (W:World) (ht:W.cell? t=some old) (hf:W.frozen? t=false):(storeCells t [.pointer (some e)] 0).run Tryd.prog W=.ok () (W.setCell t (.pointer (some e))):=by
 simp[storeCells,Addr.add];rw[run_store Tryd.prog W t _ _ (by rfl)];simp[ht,hf]
theorem asOk:AsOk Tryd.prog 32 51 71 136 24 4 0 where
 nil:=X.as_nil
 hit e t old w hg ht hf:=(X.as_hit e t old w hg ht hf).mono fun ev w' h=>by
  obtain⟨h1,h2⟩:=h
  have htl:t.block<w.heap.size:=by
   rcases Nat.lt_or_ge t.block w.heap.size with h|h
   . exact h
   . simp[World.cell?,Array.getElem?_eq_none h]at ht
  refine⟨h1,_,?_,h2▸run_put t e old _ ?_ ?_⟩
  . exact((((Below.refl _ w).alloc (lR _) _).alloc (by simp) _).alloc (by simp; omega) _).alloc (by simp; omega) _
  . rw[World.cell?_alloc_lt _ _ t (by simp; omega),World.cell?_alloc_lt _ _ t (by simp; omega),World.cell?_alloc_lt _ _ t (by simp; omega),World.cell?_alloc_lt _ _ t htl]; exact ht
  . rw[World.frozen?_alloc_old _ _ t (by simp; omega),World.frozen?_alloc_old _ _ t (by simp; omega),World.frozen?_alloc_old _ _ t (by simp; omega),World.frozen?_alloc_old _ _ t (Nat.ne_of_lt htl)]; exact hf
def kfIs:KF:=⟨fun args s=>match args with
 | [.iface t1 (.ptr b o),.iface t2 (.int .i64 c)]=>bif Nat.beq t1 51&&Nat.beq t2 27 then(ld s b o).bind fun q=>bif (match q.1 with|.int .i64 c'=>decide (c'=c)|_=>false)then some (.ret (.bool true),q.2)else none else none
 | _=>none⟩
theorem is_well:KnWell Tryd.prog E0 33 kfIs:=by
 refine⟨fun args=>?_,fun w0 ρ s w args cargs v s' hR hv hg=>?_⟩
 . unfold kfIs
   dsimp only;split
   . rename_i t1 b o t2 c
     have h:LocP fun s=>(ld s b o).bind fun q=>bif (match q.1 with|.int .i64 c'=>decide (c'=c)|_=>false)then some (En.ret (.bool true),q.2)else none:=
      Loc.bind (loc_ld b o) fun q=>Loc.cond (c:=match q with|.int .i64 c'=>decide (c'=c)|_=>false) (LocP.ret _) Loc.none
     exact Loc.cond h Loc.none
   . exact Loc.none
 . unfold kfIs at hg
   dsimp only at hg;split at hg
   . rename_i t1 b o t2 c
     cases hc:(Nat.beq t1 51&&Nat.beq t2 27)with
     | false=>rw[hc]at hg; cases hg
     | true=>
     rw[hc]at hg;simp only[cT,bA,Ev.beq_true,oI]at hg hc;obtain⟨rfl,rfl⟩:=hc;obtain⟨⟨v0,s1⟩,hld,hg⟩:=hg;dsimp only at hg;cases hh:(match v0 with|.int .i64 c'=>decide (c'=c)|_=>false)with
     | false=>rw[hh]at hg; cases hg
     | true=>
     rw[hh]at hg;simp only[cT,oS,pM]at hg;obtain⟨rfl,rfl⟩:=hg;obtain⟨l'⟩:=cargs;cases hv with
     | cons hs ht=>
     cases ht with
     | cons hi hn=>
     cases hn;cases hs with
     | iface hs=>
     cases hi with
     | iface hi=>
     cases hs with
     | @ptr _ _ cb sh sz hρ=>
     cases hi;obtain⟨cv,hcell,hcv,_,hsame⟩:=ld_sim hR hld hρ;split at hh
     . rename_i c'
       have:c'=c:=of_decide_eq_true hh;subst this;cases hcv;refine(X.is_hit ⟨cb,sh+o,none⟩ c' w hcell).mono fun e w' hw=>?_;obtain⟨rfl,rfl⟩:=hw;exact⟨ρ,_,rfl,Rho.le_refl ρ,.bool true,hR.congr hsame.1 hsame.2⟩
     . cases hh
   . cases hg
def KA:=knAdd (fun _=>none) 32 (knAs 51 71 136 24 0 1)
def KX:=knAdd KA 33 kfIs
theorem okX:KnOk Tryd.prog E0 KX:=(knOk_nil.add (as_well (by kernel_rfl) (by kernel_rfl) asOk)).add is_well
end Go.Proofs.YtafbipadnnmccaaDoor.W
namespace Go.Proofs.YtafbipadnnmccaaDoor.W
open Go.Proofs.YtafbipadnnmccaaDoor.Ev Go.RowKit
def Hd (S:St):Prop:=2<=S.next/\∃e,S.heap.get 0=some (.cells e 1 1 true (sG.one2 (Ev.one (.iface 136 (.agg 1 (Ev.one (.ptr 1 24)))))))
theorem Hd.grew {W:Nat->Prop} {S U:St} (h:Hd S) (hW:¬W 0) (g:Grew W S U):Hd U:=by
 obtain⟨h1,e,h2⟩:=h;exact⟨Nat.le_trans h1 g.next,e,by rw[g.keep 0 (by omega) hW]; exact h2⟩
theorem eql24 (x:Nat):qa5 E0 .eql 24 false true (.iface 51 (.ptr x 0)) .niliface=some (.bool false):=by kernel_rfl
theorem eql27c (n:Nat):qa5 E0 .eql 27 false true (.int .i64 (n:Int)) (.int .i64 0)=some (.bool (decide (n=0))):=by
 rw[binV_ii,intsV_eql]
 congr 2
 simp
theorem eql27s (n:Nat):qa5 E0 .eql 27 false false (.int .i64 (n:Int)) (.int .i64 (n:Int))=some (.bool true):=by
 rw[binV_ii,intsV_eql]
 congr 2
 simp
theorem eql3s (n:Nat):qa5 E0 .eql 3 false false (.int .i64 (n:Int)) (.int .i64 (n:Int))=some (.bool true):=by
 rw[binV_ii,intsV_eql]
 congr 2
 simp
theorem flt0 (c n:Nat):(qk3 c n).get 0=some (.int .i64 (c:Int)):=by unfold qk3; rw[Tr.get_ofList]; rfl
theorem flt1 (c n:Nat):(qk3 c n).get 1=some (.int .i64 (n:Int)):=by unfold qk3; rw[Tr.get_ofList]; rfl
theorem big2:2<big:=by unfold big; decide
theorem pairs_told (q x n0:Nat) (l:List LE):qag [[],[],l,[],[⟨q,0,0+1,false⟩],[],[],[⟨x,0,0+1,false⟩],[],[⟨n0,0,0+1,false⟩],[],[],[],[⟨q,0,0+1,false⟩],[],[],[⟨x,1,1+1,false⟩],[],[⟨n0,1,1+1,false⟩],[],[],[],[],[],[⟨n0,0,0+1,false⟩],[],[⟨x,0,0+1,false⟩],[],[]] [(4,[9]),(7,[9]),(13,[18]),(16,[18])]=true:=by
 have h1:=qc1 q 0 (0+1) n0 0 (0+1) false (.inl rfl);have h2:=qc1 x 0 (0+1) n0 0 (0+1) false (.inl rfl);have h3:=qc1 q 0 (0+1) n0 1 (1+1) false (.inl rfl);have h4:=qc1 x 1 (1+1) n0 1 (1+1) false (.inl rfl);show(bif (bif qbi [⟨q,0,0+1,false⟩] [⟨n0,0,0+1,false⟩]then true else false)then false else(bif (bif qbi [⟨x,0,0+1,false⟩] [⟨n0,0,0+1,false⟩]then true else false)then false else(bif (bif qbi [⟨q,0,0+1,false⟩] [⟨n0,1,1+1,false⟩]then true else false)then false else(bif (bif qbi [⟨x,1,1+1,false⟩] [⟨n0,1,1+1,false⟩]then true else false)then false else true))))=true;rw[h1,h2,h3,h4];rfl
structure KnX (K:FuncId->Option KF):Prop where
 r:RefL K
 a:K 32=some (knAs 51 71 136 24 0 1)
 i:K 33=some kfIs
section
variable {K:FuncId->Option KF} {S U T:St}
theorem as_run (hX:KnX K) (m x q:Nat) (hH:Hd S) (ho:S.on=false) (hq:AgAt S q 51 1 (Ev.one .nilptr)) (hq0:q≠0):∃U l,(ev E0 K (m+1)).f 32 [.iface 51 (.ptr x 0),.iface 71 (.ptr q 0)] (onS S)=some (.ret (.bool true),U.lg l)/\AgAt U q 51 1 (Ev.one (.ptr x 0))/\Grew (fun y=>y=q) S U/\U.next=S.next:=by
 obtain⟨U,k1,k2,k3,k4⟩:=hq.st_one ho (.ptr x 0) rfl rfl rfl;obtain⟨hn,e,hb⟩:=hH
 have hstK:stK S q 0 1 (Ev.one (.ptr x 0))=some U:=by
  have h':vu (stK S q 0 1 (Ev.one (.ptr x 0)))=some (.tuple [],U):=k1;unfold vu at h';simp only[oI,oS,pM,true_and]at h';obtain⟨u,hu,rfl⟩:=h';exact hu
 obtain⟨_,l,hl⟩:=stK_lg ho hstK [⟨0,0,0+1,false⟩];refine⟨U,l,?_,k2,k3,k4⟩;rw[qeb hX.a];show(bif Nat.beq 51 51&&Nat.beq 71 71 then asHit 0 136 1 24 x 0 q 0 (onS S)else none)=_;rw[show(Nat.beq 51 51&&Nat.beq 71 71)=true from rfl,cT];unfold asHit
 have hld:ld (onS S) 0 0=some (.iface 136 (.agg 1 (Ev.one (.ptr 1 24))),S.lg [⟨0,0,0+1,false⟩]):=by
  unfold ld;rw[show(onS S).heap.get 0=_ from hb];rfl
 rw[hld,oB];dsimp only;rw[show qit 136 1 24 (.iface 136 (.agg 1 (Ev.one (.ptr 1 24))))=true by kernel_rfl,cT,hl];rfl
theorem is_run (hX:KnX K) (m b c:Nat) (T:St) {s':St} (h:ld T b 0=some (.int .i64 (c:Int),s')):(ev E0 K (m+1)).f 33 [.iface 51 (.ptr b 0),.iface 27 (.int .i64 (c:Int))] T=some (.ret (.bool true),s'):=by
 rw[qeb hX.i];show(bif Nat.beq 51 51&&Nat.beq 27 27 then(ld T b 0).bind fun q=>bif (match q.1 with|.int .i64 c'=>decide (c'=(c:Int))|_=>false)then some (En.ret (.bool true),q.2)else none else none)=_;rw[show(Nat.beq 51 51&&Nat.beq 27 27)=true from rfl,cT,h,oB];dsimp only;rw[dT rfl,cT]
theorem told_yes (hX:KnX K) (m:Nat) (ho:S.on=false) (hH:Hd S) {x c n:Nat} (hx:AgAt S x 52 2 (qk3 c n)) (hxn:x<S.next) (hc:c≠0):∃U,(ev E0 K (m+2)).f 10 [.iface 51 (.ptr x 0),.agg 2 (qk3 c n)] S=some (.ret (.bool true),U)/\Grew (fun _=>False) S U:=by
 obtain⟨n1,n2,n3⟩:=qbp ho 29 2 (qk3 c n);have on1:=n2.on.trans ho;have hk:=n1.ld1 on1 big2 (by decide) (flt0 c n);obtain⟨p1,p2,p3⟩:=qbp on1 51 1 (Ev.one .nilptr);have on2:=p2.on.trans on1;have nx1:=n2.next
 have nx2:=p2.next
 have hh:=hH.1;obtain⟨U,l,a1,a2,a3,a4⟩:=as_run hX m x _ ((hH.grew (fun h=>h) n2).grew (fun h=>h) p2) on2 p1 (by omega);have onU:=a3.on.trans on2;have f1:AgAt U S.next 29 2 (qk3 c n):=(n1.grew (by omega) (fun h=>h) p2).grew (by omega) (by omega) a3
 have f2:AgAt U x 52 2 (qk3 c n):=((hx.grew hxn (fun h=>h) n2).grew (by omega) (fun h=>h) p2).grew (by omega) (by omega) a3;obtain⟨T4,e1,e2,e3,e4⟩:=qdn on2 U [] [[],[],(U.lg l).log,[],(U.lg [⟨(nwP 29 2 (qk3 c n) S).2.next,0,0+1,false⟩]).log,[],[],(U.lg [⟨x,0,0+1,false⟩]).log,[],(U.lg [⟨S.next,0,0+1,false⟩]).log,[],[],[],(U.lg [⟨(nwP 29 2 (qk3 c n) S).2.next,0,0+1,false⟩]).log,[],[],(U.lg [⟨x,1,1+1,false⟩]).log,[],(U.lg [⟨S.next,1,1+1,false⟩]).log,[],[],[],[],[],(U.lg [⟨S.next,0,0+1,false⟩]).log,[],(U.lg [⟨x,0,0+1,false⟩]).log,[],[]];refine⟨T4,rv10 hX.r ?_,⟨by omega,e4.trans ho.symm,fun y hy hw=>by rw[e2]; exact(a3.keep y (by omega) (by omega)).trans ((p2.keep y (by omega) hw).trans (n2.keep y hy hw))⟩⟩;show F10 (ev E0 K (m+1)) qa3 (.iface 51 (.ptr x 0)) (.agg 2 (qk3 c n)) S=_;rw[F10_eq,show ∀T:Tr V,boxK 29 (.agg 2 T) S=some (.ptr S.next 0,(nwP 29 2 T S).2)from fun T=>rfl,oB,eql24,oB];simp only[g_f,nF,b_s,c_t,f_0,hk,eql27c,p_b,c_f];rw[dF hc,i_b,c_f,qbs,a1,qc8];have l1:∀L,ld1 (.ptr (nwP 29 2 (qk3 c n) S).2.next 0) (U.lg L)=some (.ptr x 0,U.lg (⟨(nwP 29 2 (qk3 c n) S).2.next,0,0+1,false⟩::L)):=fun L=>qc5 onU (ag1 onU a2) L;have l2:∀L,ld1 (.ptr x 0) (U.lg L)=some (.int .i64 (c:Int),U.lg (⟨x,0,0+1,false⟩::L)):=fun L=>qc5 onU (f2.ld1 onU big2 (by decide) (flt0 c n)) L
 have l3:∀L,ld1 (.ptr x 1) (U.lg L)=some (.int .i64 (n:Int),U.lg (⟨x,1,1+1,false⟩::L)):=fun L=>qc5 onU (f2.ld1 onU big2 (by decide) (flt1 c n)) L;have l4:∀L,ld1 (.ptr S.next 0) (U.lg L)=some (.int .i64 (c:Int),U.lg (⟨S.next,0,0+1,false⟩::L)):=fun L=>qc5 onU (f1.ld1 onU big2 (by decide) (flt0 c n)) L;have l5:∀L,ld1 (.ptr S.next 1) (U.lg L)=some (.int .i64 (n:Int),U.lg (⟨S.next,1,1+1,false⟩::L)):=fun L=>qc5 onU (f1.ld1 onU big2 (by decide) (flt1 c n)) L;have o1:∀L,onS (U.lg L)=U.lg []:=fun L=>rfl;have hf1:∀y,faP 1 false 1 (.ptr y 0)=some (.ptr y 1):=fun y=>rfl;simp only[g_t,b_s,c_t,o1,l1,n_k,f_0,l2,l4,eql27s,p_b,hf1,l3,l5,eql3s];rw[is_run hX m x c (U.lg []) (l2 []),qc8,qfm (show qag [[],[],(U.lg l).log,[],(U.lg [⟨(nwP 29 2 (qk3 c n) S).2.next,0,0+1,false⟩]).log,[],[],(U.lg [⟨x,0,0+1,false⟩]).log,[],(U.lg [⟨S.next,0,0+1,false⟩]).log,[],[],[],(U.lg [⟨(nwP 29 2 (qk3 c n) S).2.next,0,0+1,false⟩]).log,[],[],(U.lg [⟨x,1,1+1,false⟩]).log,[],(U.lg [⟨S.next,1,1+1,false⟩]).log,[],[],[],[],[],(U.lg [⟨S.next,0,0+1,false⟩]).log,[],(U.lg [⟨x,0,0+1,false⟩]).log,[],[]] [(4,[9]),(7,[9]),(13,[18]),(16,[18])]=true from pairs_told _ x S.next l),show onS (U.lg [(⟨x,0,0+1,false⟩:LE)])=U.lg []from rfl,e1]
end
def mrkS (k:Nat):Bs:=match k with|0=>[]|1=>[113]|2=>[36]|_=>[40]
mutual
def psP:Part->Bs
 | .mk k t o q w=>mrkS k++(if q then [81]else [])++t++o++(if w.isEmpty then []else [60]++psL w++[62])
def psL:List Part->Bs
 | []=>[]
 | p::l=>psP p++(if l.isEmpty then []else [46])++psL l
end
mutual
def depP:Part->Nat
 | .mk _ _ _ _ w=>depL w+1
def depL:List Part->Nat
 | []=>0
 | p::l=>max (depP p) (depL l)
end
theorem faK (i b:Nat):faP i false 1 (.ptr b 0)=some (.ptr b (0+i)):=Eq.trans rfl rfl
theorem build_114:qab E0 114 [(0,(sv [])),(1,(sv [113])),(2,(sv [36])),(3,(sv [40]))]=some (.agg 4 (Tr.ofListFrom .nil [sv [],sv [113],sv [36],sv [40]] 0)):=by kernel_rfl
theorem mark0:ixV 4 1 false 1 (.agg 4 (Tr.ofListFrom .nil [sv [],sv [113],sv [36],sv [40]] 0)) (.int .i64 0)=some (sv []):=by kernel_rfl
theorem mark1:ixV 4 1 false 1 (.agg 4 (Tr.ofListFrom .nil [sv [],sv [113],sv [36],sv [40]] 0)) (.int .i64 1)=some (sv [113]):=by kernel_rfl
theorem mark2:ixV 4 1 false 1 (.agg 4 (Tr.ofListFrom .nil [sv [],sv [113],sv [36],sv [40]] 0)) (.int .i64 2)=some (sv [36]):=by kernel_rfl
theorem mark3:ixV 4 1 false 1 (.agg 4 (Tr.ofListFrom .nil [sv [],sv [113],sv [36],sv [40]] 0)) (.int .i64 3)=some (sv [40]):=by kernel_rfl
theorem mark_ix (k:Nat):ixV 4 1 false 1 (.agg 4 (Tr.ofListFrom .nil [sv [],sv [113],sv [36],sv [40]] 0)) (.int .i64 (max (min (k:Int) 3) 0))=some (sv (mrkS k)):=by
 match k with
 | 0=>exact mark0
 | 1=>exact mark1
 | 2=>exact mark2
 | k+3=>
  rw[show max (min ((k+3:Nat):Int) 3) 0=3 by omega,show mrkS (k+3)=[40]from rfl];exact mark3
theorem rowP0 (k:Nat) (t o:Bs) (q:Bool) (v:V):(qdo k t o q v).get 0=some (.int .i64 (k:Int)):=by unfold qdo; rw[Tr.get_ofList]; rfl
theorem rowP1 (k:Nat) (t o:Bs) (q:Bool) (v:V):(qdo k t o q v).get 1=some (sv t):=by unfold qdo; rw[Tr.get_ofList]; rfl
theorem rowP2 (k:Nat) (t o:Bs) (q:Bool) (v:V):(qdo k t o q v).get 2=some (sv o):=by unfold qdo; rw[Tr.get_ofList]; rfl
theorem rowP3 (k:Nat) (t o:Bs) (q:Bool) (v:V):(qdo k t o q v).get 3=some (.bool q):=by unfold qdo; rw[Tr.get_ofList]; rfl
theorem rowP4 (k:Nat) (t o:Bs) (q:Bool) (v:V):(qdo k t o q v).get 4=some v:=by unfold qdo; rw[Tr.get_ofList]; rfl
section
variable {K:FuncId->Option KF} {S U T:St}
def PshOk (K:FuncId->Option KF) (d:Nat) (l:List Part):Prop:=∀(S:St) (v:V) (rows:List (Tr V)) (Q:Nat->Prop),S.on=false->RV S v 49 6 rows->PrAt S Q l rows->(∀x,Q x->x<S.next)->(psL l).length<1000000000->∃U,(ev E0 K d).f 36 [v] S=some (.ret (sv (psL l)),U)/\Grew (fun _=>False) S U
theorem ql3 (self:EV) (N:Nat) (nk:Ac->St->Rs) (ek:Nat->Ac->St->Rs) (q:Nat) {v:V} {rows:List (Tr V)} (hv:RV S v 49 6 rows) (j:Nat) (hj:j<9223372036854770000) (t:Bs) (ht:t.length<2000000000) (U:St) :
 ((qa5 E0 .add 3 false true (.int .i64 (j:Int)) (.int .i64 1)).bind fun t52=>(lnS v U).bind fun p54=>(qa5 E0 .lss 3 false false t52 p54.1).bind fun t55=>ifK t55 (
   (qa5 E0 .add 9 false true (sv t) (sv [46])).bind fun t57=>(qa5 E0 .add 3 false true (.int .i64 (j:Int)) (.int .i64 1)).bind fun t60=>qg5 self N nk ek q v t57 t60 p54.2) (
   (qa5 E0 .add 3 false true (.int .i64 (j:Int)) (.int .i64 1)).bind fun t63=>qg5 self N nk ek q v (sv t) t63 p54.2))=qg5 self N nk ek q v (sv (t++if j+1<rows.length then [46]else [])) (.int .i64 ((j+1:Nat):Int)) U:=by
 rw[qff (by omega),b_s,hv.len,b_s];dsimp only;rw[qk5,b_s,i_b];by_cases h:j+1<rows.length
 . rw[dT h,c_t,qbf _ _ (by simp; omega),b_s,b_s,iP h]
 . rw[dF h,c_f,b_s,iN h,List.append_nil]
theorem psh_loop (hK:RefL K) (d n:Nat) (ih:∀w,depL w<n->PshOk K d w) (N:Nat) (nk:Ac->St->Rs) (ek:Nat->Ac->St->Rs) {v:V} {rows:List (Tr V)} {Q:Nat->Prop} :
 ∀(l:List Part) (j q:Nat) (o:Bs) (rest:List (Tr V)) (S:St),S.on=false->RV S v 49 6 rows->(∀x,Q x->x<S.next)->rows.drop j=rest->PrAt S Q l rest->depL l<=n->l.length<q->(o++psL l).length<1000000000->
 ∃U,qg5 (ev E0 K d) N nk ek q v (sv o) (.int .i64 (j:Int)) S=ek 0 (fr 55 [(3,sv (o++psL l))]) U/\Grew (fun _=>False) S U
 | l,j,0,o,rest,S,_,_,_,_,_,_,hq,_=>by omega
 | [],j,q+1,o,rest,S,ho,hv,hQ,hr,hp,hn,hq,hl=>by
  simp only[PrAt]at hp;rw[hp]at hr;have:=qh6 hr;refine⟨S,?_,Grew.refl _ _⟩;rw[L36_6_eq,hv.len,b_s];dsimp only;rw[qk5,dF (by omega),b_s,i_b,c_f,psL,List.append_nil]
 | .mk k t op qd w::l,j,q+1,o,rest,S,ho,hv,hQ,hr,hp,hn,hq,hl=>by
  simp only[PrAt]at hp;obtain⟨c,rest',rfl,hc,hp'⟩:=hp;simp only[PtAt]at hc;obtain⟨v',rows',rfl,hv',hw,hb⟩:=hc;obtain⟨hlt,e1,e2,_⟩:=qjg hr;obtain⟨r,hr1,hr2,hr3,hr4⟩:=hv.at hlt;have hg:rows[j]?=some (qdo k t op qd v'):=by rw[List.getElem?_eq_getElem hlt,e1]
  obtain⟨n1,n2,n3⟩:=qbp ho 49 6 (Tr.ofListFrom .nil [(.int .i64 0),(sv []),(sv []),(.bool false),.nilslice,.nilptr] 0);have on1:=n2.on.trans ho;obtain⟨S2,m1,m2,m3,m4⟩:=n1.stA on1 qjb (qdo k t op qd v');have on2:=m3.on.trans on1;have nx:=n2.next
  have g2:Grew (fun _=>False) S S2:=⟨by omega,on2.trans ho.symm,fun x hx hw=>by rw[m3.keep x (by omega) (by omega)]; exact n2.keep x hx hw⟩
  have hd':depL w<n:=by
   simp only[depL,depP]at hn;omega
  have hdl:depL l<=n:=by
   simp only[depL]at hn;omega
  have f0:=m2.ld1 on2 qjb (by decide) (rowP0 k t op qd v');have f1:=m2.ld1 on2 qjb (by decide) (rowP1 k t op qd v');have f2:=m2.ld1 on2 qjb (by decide) (rowP2 k t op qd v');have f3:=m2.ld1 on2 qjb (by decide) (rowP3 k t op qd v');have f4:=m2.ld1 on2 qjb (by decide) (rowP4 k t op qd v');have hv2:RV S2 v 49 6 rows:=hv.grew (fun _ _ h=>h) g2;have hv'2:RV S2 v' 49 6 rows':=hv'.grew (fun _ _ h=>h) g2;have hw2:PrAt S2 Q w rows':=PrAt.grew g2 (fun _ _ h=>h) hw
  have hj:j<9223372036854770000:=by
   have:=hr3.fit;unfold big at this;omega
  have hsep:(if j+1<rows.length then [46]else []:Bs)=if l.isEmpty then []else [46]:=by
   have:rest'.length=l.length:=hp'.len;have e3:=congrArg List.length e2;rw[List.length_drop]at e3;cases l with
   | nil=>rw[iN (by rw[List.length_nil]at this; rw[this]at e3; omega)]; rfl
   | cons a l=>rw[iP (by rw[List.length_cons]at this; omega)]; rfl
  rw[psL,psP]at hl;simp only[lAq]at hl
  have hmk:(mrkS k).length<=1:=by
   unfold mrkS;split<;>simp
  have hE:qg5 (ev E0 K d) N nk ek (q+1) v (sv o) (.int .i64 (j:Int)) S=_:=L36_6_eq ..;rw[hv.len,b_s]at hE;dsimp only at hE;rw[qk5,dT hlt,b_s,i_b,c_t,hr2,b_s,rv_ldA ho hr3 hg,b_s]at hE;dsimp only at hE;rw[b_s,qbs,m1,b_s,build_114,b_s]at hE;dsimp only at hE;rw[faK,b_s,f0,b_s]at hE;dsimp only at hE;rw[foldK_min,b_s]at hE;dsimp only at hE;rw[foldK_max,b_s]at hE;dsimp only at hE;rw[mark_ix,b_s,faK,b_s,f3,b_s]at hE;dsimp only at hE;rw[i_b]at hE
  have fin:∀(tx:Bs) (U:St),Grew (fun _=>False) S2 U->tx=o++psP (.mk k t op qd w)->qg5 (ev E0 K d) N nk ek (q+1) v (sv o) (.int .i64 (j:Int)) S=qg5 (ev E0 K d) N nk ek q v (sv (tx++if j+1<rows.length then [46]else [])) (.int .i64 ((j+1:Nat):Int)) U->
   ∃U,qg5 (ev E0 K d) N nk ek (q+1) v (sv o) (.int .i64 (j:Int)) S=ek 0 (fr 55 [(3,sv (o++psL (.mk k t op qd w::l)))]) U/\Grew (fun _=>False) S U:=fun tx U g htx he=>by
   subst htx;have g3:=g2.trans g
   obtain⟨T,t1,t2⟩:=psh_loop hK d n ih N nk ek l (j+1) q (o++psP (.mk k t op qd w)++if l.isEmpty then []else [46]) rest' U (g3.on.trans ho) (hv.grew (fun _ _ h=>h) g3) (fun x hx=>Nat.lt_of_lt_of_le (hQ x hx) g3.next) e2 (PrAt.grew g3 (fun _ _ h=>h) hp') hdl (by simp only[List.length_cons]at hq; omega) (by
    simp only[lAq,psP]
    omega)
   refine⟨T,?_,g3.trans t2⟩;rw[he,hsep,t1,psL];simp only[List.append_assoc]
  have hlen:∀(T:St),lnS v' T=some (.int .i64 (rows'.length:Int),T):=hv'.len;have hwl:=hw.len
  have hgt:qa5 E0 .gtr 3 false true (.int .i64 (rows'.length:Int)) (.int .i64 0)=some (.bool (!w.isEmpty)):=by
   rw[show(V.int .i64 0)=.int .i64 ((0:Nat):Int)from rfl,binV_ii,intsV_gtr,hwl]
   congr 2
   cases w<;>simp
  cases qd with
  | true=>
   rw[c_t,qbf _ _ (by simp; omega),b_s,qbf _ _ (by simp; omega),b_s,faK,b_s,f1,b_s]at hE;dsimp only at hE;rw[qbf _ _ (by simp; omega),b_s,faK,b_s,f2,b_s]at hE;dsimp only at hE;rw[qbf _ _ (by simp; omega),b_s,faK,b_s,f4,b_s]at hE;dsimp only at hE;rw[hlen,b_s]at hE;dsimp only at hE;rw[hgt,b_s,i_b]at hE;cases hw0:w.isEmpty with
   | true=>
    rw[hw0,Bool.not_true,c_f,ql3 _ _ _ _ _ hv _ hj _ (by simp; omega)]at hE;exact fin _ _ (Grew.refl _ _) (by rw[psP,hw0]; simp) hE
   | false=>
    rw[hw0]at hl;simp only[Bool.false_eq_true,if_false,lAq,List.length_singleton]at hl;obtain⟨T,t1,t2⟩:=ih w hd' S2 v' rows' Q on2 hv'2 hw2 (fun x hx=>Nat.lt_of_lt_of_le (hQ x hx) g2.next) (by omega);rw[hw0,nF,c_t,qbf _ _ (by simp; omega),b_s,b_s,f4,b_s]at hE;dsimp only at hE;rw[t1,callP_ret,qbf _ _ (by simp; omega),b_s,qbf _ _ (by simp; omega),b_s,ql3 _ _ _ _ _ hv _ hj _ (by simp; omega)]at hE;exact fin _ _ t2 (by rw[psP,hw0]; simp) hE
  | false=>
   rw[c_f,qbf _ _ (by omega),b_s,faK,b_s,f1,b_s]at hE;dsimp only at hE;rw[qbf _ _ (by simp; omega),b_s,faK,b_s,f2,b_s]at hE;dsimp only at hE;rw[qbf _ _ (by simp; omega),b_s,faK,b_s,f4,b_s]at hE;dsimp only at hE;rw[hlen,b_s]at hE;dsimp only at hE;rw[hgt,b_s,i_b]at hE;cases hw0:w.isEmpty with
   | true=>
    rw[hw0,Bool.not_true,c_f,ql3 _ _ _ _ _ hv _ hj _ (by simp; omega)]at hE;exact fin _ _ (Grew.refl _ _) (by rw[psP,hw0]; simp) hE
   | false=>
    rw[hw0]at hl;simp only[Bool.false_eq_true,if_false,lAq,List.length_singleton]at hl;obtain⟨T,t1,t2⟩:=ih w hd' S2 v' rows' Q on2 hv'2 hw2 (fun x hx=>Nat.lt_of_lt_of_le (hQ x hx) g2.next) (by omega);rw[hw0,nF,c_t,qbf _ _ (by simp; omega),b_s,b_s,f4,b_s]at hE;dsimp only at hE;rw[t1,callP_ret,qbf _ _ (by simp; omega),b_s,qbf _ _ (by simp; omega),b_s,ql3 _ _ _ _ _ hv _ hj _ (by simp; omega)]at hE;exact fin _ _ t2 (by rw[psP,hw0]; simp) hE
theorem psh_run (hK:RefL K) (m:Nat):∀(n:Nat) (l:List Part),depL l<=n->PshOk K (m+n+1) l
 | n,l,hn=>by
  intro S v rows Q ho hv hp hQ hl
  have ih:∀w,depL w<n->PshOk K (m+n) w:=fun w hw=>by
   obtain⟨n',rfl⟩:∃n',n=n'+1:=⟨n-1,by omega⟩
   exact psh_run hK m n' w (by omega)
  have hlq:l.length<qa3:=by
   have h1:=hp.len;rcases hv with⟨h,_⟩|⟨r,h2,_,_,_⟩
   . rw[h]at h1
     simp at h1;unfold qa3;omega
   . have:=h2.fit
     unfold big at this;unfold qa3;omega
  obtain⟨U,u1,u2⟩:=psh_loop hK (m+n) n ih qa3 (R36_2 (ev E0 K (m+n)) qa3 (qbu E0 (ev E0 K (m+n)) Tryd.f36) qav) (exB 0 (R36_2 (ev E0 K (m+n)) qa3 (qbu E0 (ev E0 K (m+n)) Tryd.f36) qav) qav) l 0 qa3 [] rows S ho hv hQ rfl hp hn hlq (by simpa using hl);refine⟨U,rv36 hK ?_,u2⟩;show F36 (ev E0 K (m+n)) qa3 v S=_;rw[F36_eq,show(V.int .i64 0)=.int .i64 ((0:Nat):Int)from rfl,u1,exB_same,R36_2_eq,List.nil_append]
end
def shwT (t:Tok):Bs:=if t.kind=0 then [91]++psL t.parts++[93]else if t.kind=2 then [47]else if t.kind=3 then [123]++t.text++(if t.quoted then []else [58]++psL t.parts)++[125]else [32]++t.text++[32]
def shwL:List Tok->Bs
 | []=>[]
 | t::l=>shwT t++shwL l
def shwD:Except Flt (List Tok)->Bs
 | .error _=>[63]
 | .ok l=>shwL l
def depT (l:List Tok):Bool:=l.all fun t=>Nat.ble (depL t.parts) 30
theorem rowT0 (t:Tok) (v:V):(qew t v).get 0=some (.int .i64 (t.kind:Int)):=by unfold qew; rw[Tr.get_ofList]; rfl
theorem rowT1 (t:Tok) (v:V):(qew t v).get 1=some (sv t.text):=by unfold qew; rw[Tr.get_ofList]; rfl
theorem rowT2 (t:Tok) (v:V):(qew t v).get 2=some v:=by unfold qew; rw[Tr.get_ofList]; rfl
theorem rowT3 (t:Tok) (v:V):(qew t v).get 3=some (.bool t.quoted):=by unfold qew; rw[Tr.get_ofList]; rfl
theorem rowT4 (t:Tok) (v:V):(qew t v).get 4=some (.int .i64 (t.at_:Int)):=by unfold qew; rw[Tr.get_ofList]; rfl
theorem eqKd (k c:Nat):qa5 E0 .eql 3 false true (.int .i64 (k:Int)) (.int .i64 (c:Int))=some (.bool (decide (k=c))):=by
 rw[binV_ii,intsV_eql]
 congr 2
 rw[Bool.eq_iff_iff];simp;omega
theorem u_not (b:Bool):unV .not (.bool b)=some (.bool (!b)):=Eq.trans rfl rfl
theorem nd_neq:qa5 E0 .neq 24 false true .niliface .niliface=some (.bool false):=by kernel_rfl
theorem nx_neq (x:Nat):qa5 E0 .neq 24 false true (.iface 51 (.ptr x 0)) .niliface=some (.bool true):=by kernel_rfl
theorem ln_nil (S:St):lnS .nilslice S=some (.int .i64 ((0:Nat):Int),S):=Eq.trans rfl rfl
theorem build_29 (c n:Nat):qab E0 29 [(0,.int .i64 (c:Int)),(1,.int .i64 (n:Int))]=some (.agg 2 (qk3 c n)):=by kernel_rfl
section
variable {K:FuncId->Option KF} {S U T:St}
theorem qd8 (g:Grew (fun x=>S.next<=x) S U):Grew (fun _=>False) S U:=⟨g.next,g.on,fun x hx _=>g.keep x hx (by omega)⟩
theorem shw_loop (hK:RefL K) (d:Nat) (N:Nat) (nk:Ac->St->Rs) (ek:Nat->Ac->St->Rs) {v:V} {rows:List (Tr V)} {Q:Nat->Prop} {toks:List Tok} :
 ∀(l:List Tok) (j q:Nat) (o:Bs) (S:St),S.on=false->RV S v 39 5 rows->TksAt S Q toks rows->(∀x,Q x->x<S.next)->toks.drop j=l->depT l=true->l.length<q->(o++shwL l).length<1000000000->
 ∃U,qfz (ev E0 K (d+31)) N nk ek q v (sv o) (.int .i64 (j:Int)) S=ek 0 (fr 78 [(5,sv (o++shwL l))]) U/\Grew (fun _=>False) S U
 | l,j,0,o,S,_,_,_,_,_,_,hq,_=>by omega
 | [],j,q+1,o,S,ho,hv,ht,hQ,hr,hdp,hq,hl=>by
  have:=qh6 hr;have h1:=ht.1;refine⟨S,?_,Grew.refl _ _⟩;rw[L14_16_eq,hv.len,b_s];dsimp only;rw[qk5,dF (by omega),b_s,i_b,c_f,shwL,List.append_nil]
 | t::l,j,q+1,o,S,ho,hv,ht,hQ,hr,hdp,hq,hl=>by
  obtain⟨hlt,e1,e2,_⟩:=qjg hr;have h1:=ht.1;have hjl:j<rows.length:=by omega
  obtain⟨r,hr1,hr2,hr3,hr4⟩:=hv.at hjl;obtain⟨c,hg,v',rows',rfl,hv',hp',hb⟩:=ht.2 j t (by rw[List.getElem?_eq_getElem hlt,e1]);have f0:=qfe ho hr3 hg (by decide) (rowT0 t v');have f1:=qfe ho hr3 hg (by decide) (rowT1 t v');have f2:=qfe ho hr3 hg (by decide) (rowT2 t v');have f3:=qfe ho hr3 hg (by decide) (rowT3 t v');have fx:∀i,faP i false 1 (.ptr r (j*5))=some (.ptr r (j*5+i)):=fun i=>faPg i 0 _ false r
  have hj:j<9223372036854770000:=by
   have:=hr3.fit;unfold big at this;omega
  rw[depT,List.all_cons,Bool.and_eq_true_iff]at hdp;rw[shwL]at hl;simp only[lAq]at hl;have hE:qfz (ev E0 K (d+31)) N nk ek (q+1) v (sv o) (.int .i64 (j:Int)) S=_:=L14_16_eq ..;rw[hv.len,b_s]at hE;dsimp only at hE;rw[qk5,dT hjl,b_s,i_b,c_t,hr2,b_s,fx,b_s,f0,b_s]at hE;dsimp only at hE;rw[show(V.int .i64 0)=.int .i64 ((0:Nat):Int)from rfl,eqKd,b_s,i_b]at hE
  have fin:∀(tx:Bs) (U:St),Grew (fun _=>False) S U->tx=o++shwT t->qfz (ev E0 K (d+31)) N nk ek (q+1) v (sv o) (.int .i64 (j:Int)) S=qfz (ev E0 K (d+31)) N nk ek q v (sv tx) (.int .i64 ((j+1:Nat):Int)) U->
   ∃U,qfz (ev E0 K (d+31)) N nk ek (q+1) v (sv o) (.int .i64 (j:Int)) S=ek 0 (fr 78 [(5,sv (o++shwL (t::l)))]) U/\Grew (fun _=>False) S U:=fun tx U g htx he=>by
   subst htx;obtain⟨T,t1,t2⟩:=shw_loop hK d N nk ek l (j+1) q (o++shwT t) U (g.on.trans ho) (hv.grew (fun _ _ h=>h) g) (ht.grew g fun _ _ h=>h) (fun x hx=>Nat.lt_of_lt_of_le (hQ x hx) g.next) e2 hdp.2 (by simp only[List.length_cons]at hq; omega) (by simp only[lAq]; omega);refine⟨T,?_,g.trans t2⟩;rw[he,t1,shwL,List.append_assoc]
  have psh:(psL t.parts).length<1000000000->∃U,(ev E0 K (d+31)).f 36 [v'] S=some (.ret (sv (psL t.parts)),U)/\Grew (fun _=>False) S U:=fun hl=>psh_run hK d 30 t.parts (Nat.le_of_ble_eq_true hdp.1) S v' rows' Q ho hv' hp' hQ hl;unfold shwT at hl fin;by_cases k0:t.kind=0
  . rw[iP k0]at hl fin
    simp only[lAq,List.length_singleton]at hl;obtain⟨U,u1,u2⟩:=psh (by omega);rw[dT k0,c_t,qbf _ _ (by simp; omega),b_s,b_s,fx,b_s,f2,b_s]at hE;dsimp only at hE;rw[u1,callP_ret,qbf _ _ (by simp; omega),b_s,qbf _ _ (by simp; omega),b_s,qff (by omega),b_s]at hE;exact fin _ U u2 (by simp) hE
  . rw[iN k0]at hl fin
    rw[dF k0,c_f,show(V.int .i64 2)=.int .i64 ((2:Nat):Int)from rfl,eqKd,b_s,i_b]at hE;by_cases k2:t.kind=2
    . rw[iP k2]at hl fin
      simp only[List.length_singleton]at hl;rw[dT k2,c_t,qbf _ _ (by simp; omega),b_s,qff (by omega),b_s]at hE;exact fin _ S (Grew.refl _ _) rfl hE
    . rw[iN k2]at hl fin
      rw[dF k2,c_f,show(V.int .i64 3)=.int .i64 ((3:Nat):Int)from rfl,eqKd,b_s,i_b]at hE;by_cases k3:t.kind=3
      . rw[iP k3]at hl fin
        simp only[lAq,List.length_singleton]at hl;rw[dT k3,c_t,qbf _ _ (by simp; omega),b_s,b_s,fx,b_s,f1,b_s]at hE;dsimp only at hE;rw[qbf _ _ (by simp; omega),b_s,b_s,fx,b_s,f3,b_s]at hE;dsimp only at hE;rw[u_not,b_s,i_b]at hE;cases hq':t.quoted with
        | true=>
         rw[hq']at hE fin;rw[Bool.not_true,c_f,qbf _ _ (by simp; omega),b_s,qff (by omega),b_s]at hE;exact fin _ S (Grew.refl _ _) (by simp) hE
        | false=>
         rw[hq']at hE fin hl;simp only[Bool.false_eq_true,if_false,lAq,List.length_singleton]at hl;obtain⟨U,u1,u2⟩:=psh (by omega);rw[nF,c_t,qbf _ _ (by simp; omega),b_s,b_s,fx,b_s,f2,b_s]at hE;dsimp only at hE;rw[u1,callP_ret,qbf _ _ (by simp; omega),b_s,qbf _ _ (by simp; omega),b_s,qff (by omega),b_s]at hE;exact fin _ U u2 (by simp) hE
      . rw[iN k3]at hl fin
        simp only[lAq,List.length_singleton]at hl;rw[dF k3,c_f,qbf _ _ (by simp; omega),b_s,b_s,fx,b_s,f1,b_s]at hE;dsimp only at hE;rw[qbf _ _ (by simp; omega),b_s,qbf _ _ (by simp; omega),b_s,qff (by omega),b_s]at hE;exact fin _ S (Grew.refl _ _) (by simp) hE
def depA:Except Flt (List Tok)->Bool
 | .error _=>true
 | .ok l=>depT l
theorem toks_small {v:V} {rows:List (Tr V)} {Q:Nat->Prop} {toks:List Tok} (hv:RV S v 39 5 rows) (ht:TksAt S Q toks rows):toks.length<qa3:=by
 have h1:=ht.1;rcases hv with⟨h,_⟩|⟨r,h2,_,_,_⟩
 . rw[h]at h1
   simp at h1;unfold qa3;omega
 . have:=h2.fit
   unfold big at this;unfold qa3;omega
theorem shown_run (hK:RefL K) (d:Nat) (s:Bs) (ho:S.on=false) (hs:s.length<=5000) (hd:18*s.length+600<=d) (hdp:depA (qif s)=true) (hl:(shwD (qif s)).length<1000000000):∃U,(ev E0 K (d+22)).f 14 [sv s] S=some (.ret (sv (shwD (qif s))),U)/\Grew (fun _=>False) S U:=by
 have hq:=lex_run hK d s ho hs hd;have hE:F14 (ev E0 K (d+21)) qa3 (sv s) S=_:=F14_eq ..;cases hA:qif s with
 | error e=>
  rw[hA]at hq;obtain⟨U,x,h1,h2,h3,h4,h5⟩:=hq;refine⟨U,rv14 hK ?_,(qd8 h5)⟩;show F14 (ev E0 K (d+21)) qa3 (sv s) S=_;rw[hE,h1,callP_ret,ex0,b_s,ex1,b_s,nx_neq,b_s,i_b,c_t];rfl
 | ok toks=>
  rw[hA]at hq hdp hl;obtain⟨U,v,rT,h1,h2,h3,h4,h5⟩:=hq;obtain⟨d',rfl⟩:∃d',d=d'+10:=⟨d-10,by omega⟩
  obtain⟨T,t1,t2⟩:=shw_loop hK d' qa3 (R14_12 (ev E0 K (d'+31)) qa3 (qbu E0 (ev E0 K (d'+31)) Tryd.f14) qav) (exB 0 (R14_12 (ev E0 K (d'+31)) qa3 (qbu E0 (ev E0 K (d'+31)) Tryd.f14) qav) qav) toks 0 qa3 [] U (h5.on.trans ho) h2 h3 (fun x hx=>hx.2) rfl hdp (toks_small h2 h3) (by rw[List.nil_append]; exact hl);refine⟨T,rv14 hK ?_,(qd8 h5).trans t2⟩;show F14 (ev E0 K (d'+31)) qa3 (sv s) S=_;rw[hE,h1,callP_ret,ex0,b_s,ex1,b_s,nd_neq,b_s,i_b,c_f];rw[show(V.int .i64 0)=.int .i64 ((0:Nat):Int)from rfl,t1,exB_same,R14_12_eq,List.nil_append];rfl
theorem qja (hX:KnX K) (d:Nat) (s:Bs) {c n:Nat} (ho:S.on=false) (hH:Hd S) (hs:s.length<=5000) (hd:18*s.length+600<=d) (hA:qif s=.error (c,n)) (hc:c≠0):∃U,(ev E0 K (d+22)).f 15 [sv s,.int .i64 (c:Int),.int .i64 (n:Int)] S=some (.ret (.bool true),U)/\Grew (fun _=>False) S U:=by
 have hq:=lex_run hX.r d s ho hs hd;rw[hA]at hq;obtain⟨U,x,h1,h2,h3,h4,h5⟩:=hq;have h6:=(qd8 h5)
 have hE:F15 (ev E0 K (d+21)) qa3 (sv s) (.int .i64 (c:Int)) (.int .i64 (n:Int)) S=_:=F15_eq ..;obtain⟨T,t1,t2⟩:=told_yes hX (d+19) (h5.on.trans ho) (hH.grew (fun h=>h) h6) h2 h4 hc;refine⟨T,rv15 hX.r ?_,h6.trans t2⟩;show F15 (ev E0 K (d+21)) qa3 (sv s) (.int .i64 (c:Int)) (.int .i64 (n:Int)) S=_;rw[hE,h1,callP_ret,ex0,b_s,ex1,b_s,ln_nil,b_s];dsimp only;rw[show(V.int .i64 0)=.int .i64 ((0:Nat):Int)from rfl,eqKd,dT rfl,b_s];simp only[g_t,b_s,c_t,build_29,t1,callP_ret,p_b]
end
theorem wA0:shwD (qif [101,99,104,111,32,97,39,98,32,99,39,34,100,36,120,34,32,50,62,102])=[91,101,99,104,111,93,91,97,46,113,98,32,99,46,113,81,100,46,36,81,120,93,32,50,62,32,91,102,93]:=by kernel_rfl
theorem wB0:depA (qif [101,99,104,111,32,97,39,98,32,99,39,34,100,36,120,34,32,50,62,102])=true:=by kernel_rfl
theorem wA1:shwD (qif [97,59,98,38,38,99,32,35,32,120,10])=[91,97,93,32,59,32,91,98,93,32,38,38,32,91,99,93,47]:=by kernel_rfl
theorem wB1:depA (qif [97,59,98,38,38,99,32,35,32,120,10])=true:=by kernel_rfl
theorem wA2:shwD (qif [36,123,120,58,45,97,32,98,125,34,36,123,35,121,125,34,32,36,40,102,32,39,41,39,32,41])=[91,36,120,58,45,60,97,32,98,62,46,36,81,121,108,101,110,93,91,40,102,32,39,41,39,32,93]:=by kernel_rfl
theorem wB2:depA (qif [36,123,120,58,45,97,32,98,125,34,36,123,35,121,125,34,32,36,40,102,32,39,41,39,32,41])=true:=by kernel_rfl
theorem wA3:shwD (qif [99,97,116,32,60,60,69,59,120,10,104,105,32,36,121,10,69,10])=[91,99,97,116,93,32,60,60,32,91,69,93,123,104,105,32,36,121,10,58,113,81,104,105,32,46,36,81,121,46,113,81,10,125,32,59,32,91,120,93,47]:=by kernel_rfl
theorem wB3:depA (qif [99,97,116,32,60,60,69,59,120,10,104,105,32,36,121,10,69,10])=true:=by kernel_rfl
theorem wC0:qif [39,97]=.error (19,0):=by kernel_rfl
theorem wC1:qif [97,32,38]=.error (19,2):=by kernel_rfl
theorem wC2:qif [34,36,123,120,34]=.error (19,1):=by kernel_rfl
theorem wC3:qif [96]=.error (19,0):=by kernel_rfl
theorem eqS_t (c d:Bool) (a:Bs):qa5 E0 .eql 9 c d (sv a) (sv a)=some (.bool true):=by
 rw[eqStr];simp
section
variable {K:FuncId->Option KF} {S U T:St}
theorem qj7 (hK:RefL K) (d:Nat) {s t:Bs} (h1:shwD (qif s)=t) (h2:depA (qif s)=true) (ho:S.on=false) (hs:s.length<=5000) (hd:18*s.length+600<=d) (ht:t.length<1000000000):∃U,(ev E0 K (d+22)).f 14 [sv s] S=some (.ret (sv t),U)/\Grew (fun _=>False) S U:=by
 subst h1;exact shown_run hK d s ho hs hd h2 ht
theorem works_run (hX:KnX K) (d:Nat) (hd:1200<=d) (ho:S.on=false) (hH:Hd S):∃U,(ev E0 K (d+23)).f 12 [] S=some (.ret (.bool true),U)/\Grew (fun _=>False) S U:=by
 obtain⟨S0,a0,g0⟩:=qj7 (S:=S) hX.r d wA0 wB0 ho (by simp) (by simp; omega) (by simp);have o0:=g0.on.trans ho;obtain⟨S1,a1,g1⟩:=qj7 (S:=S0) hX.r d wA1 wB1 o0 (by simp) (by simp; omega) (by simp);have o1:=g1.on.trans o0;obtain⟨S2,a2,g2⟩:=qj7 (S:=S1) hX.r d wA2 wB2 o1 (by simp) (by simp; omega) (by simp);have o2:=g2.on.trans o1;obtain⟨S3,a3,g3⟩:=qj7 (S:=S2) hX.r d wA3 wB3 o2 (by simp) (by simp; omega) (by simp);have o3:=g3.on.trans o2;have hH3:=(((hH.grew (fun h=>h) g0).grew (fun h=>h) g1).grew (fun h=>h) g2).grew (fun h=>h) g3;obtain⟨S4,a4,g4⟩:=qja hX (S:=S3) d [39,97] o3 hH3 (by simp) (by simp; omega) wC0 (by decide);have o4:=g4.on.trans o3;have hH4:=hH3.grew (fun h=>h) g4;obtain⟨S5,a5,g5⟩:=qja hX (S:=S4) d [97,32,38] o4 hH4 (by simp) (by simp; omega) wC1 (by decide);have o5:=g5.on.trans o4;have hH5:=hH4.grew (fun h=>h) g5;obtain⟨S6,a6,g6⟩:=qja hX (S:=S5) d [34,36,123,120,34] o5 hH5 (by simp) (by simp; omega) wC2 (by decide);have o6:=g6.on.trans o5;have hH6:=hH5.grew (fun h=>h) g6;obtain⟨S7,a7,g7⟩:=qja hX (S:=S6) d [96] o6 hH6 (by simp) (by simp; omega) wC3 (by decide);have o7:=g7.on.trans o6;have hH7:=hH6.grew (fun h=>h) g7;refine⟨S7,rv12 hX.r ?_,((((((g0.trans g1).trans g2).trans g3).trans g4).trans g5).trans g6).trans g7⟩;show F12 (ev E0 K (d+22)) qa3 S=_;rw[F12_eq,a0,callP_ret,eqS_t,b_s];simp only[g_t,b_s,c_t,p_b,callP_ret,eqS_t,a1,a2,a3]
 rw[show(V.int .i64 19)=.int .i64 ((19:Nat):Int)from rfl];rw[show(V.int .i64 0)=.int .i64 ((0:Nat):Int)from rfl,a4,callP_ret];simp only[g_t,b_s,c_t,p_b,callP_ret];rw[show(V.int .i64 2)=.int .i64 ((2:Nat):Int)from rfl,a5,callP_ret];simp only[g_t,b_s,c_t,p_b,callP_ret];rw[show(V.int .i64 1)=.int .i64 ((1:Nat):Int)from rfl,a6,callP_ret];simp only[g_t,b_s,c_t,p_b,callP_ret];rw[a7,callP_ret]
end
theorem knAs_lg (tE tP rT tErr gB bT:Nat) (args:List V):Lg.LocP fun s=>(knAs tE tP rT tErr gB bT).run args s:=by
 unfold knAs;dsimp only;split
 . exact Lg.LocP.ret _
 . refine Lg.Loc.cond ?_ Lg.Loc.none
   unfold asHit;refine Lg.Loc.bind (Lg.loc_ld _ _) fun q=>?_;dsimp only;exact Lg.Loc.cond (Lg.Loc.bindS (Lg.loc_stK _ _ _ _) (Lg.LocP.ret _)) Lg.Loc.none
 . exact Lg.Loc.none
theorem kfIs_lg (args:List V):Lg.LocP fun s=>kfIs.run args s:=by
 unfold kfIs;dsimp only;split
 . refine Lg.Loc.cond ?_ Lg.Loc.none
   refine Lg.Loc.bind (Lg.loc_ld _ _) fun q=>?_;dsimp only;exact Lg.Loc.cond (Lg.LocP.ret _) Lg.Loc.none
 . exact Lg.Loc.none
theorem lgX:Lg.KnLoc KX:=((Lg.knLoc_nil).add 32 fun _=>knAs_lg _ _ _ _ _ _ _).add 33 fun _=>kfIs_lg _
end Go.Proofs.YtafbipadnnmccaaDoor.W
end
