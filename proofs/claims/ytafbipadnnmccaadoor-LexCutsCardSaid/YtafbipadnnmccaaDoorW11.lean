/-
  WHAT THE FUNCTIONS COME TO: each is read by the evaluator,printed,and told as a function of data,part 11 of 17 (no condition).
-/
import Derived.Test.YtafbipadnnmccaaDoorW10
import Derived.Test.YtafbipadnnmccaaDoorProg
import Derived.WalkKit
import Derived.LaidEql
import Derived.Stop.Asserts
import Derived.RowKitTokens
import Derived.ProofKit
noncomputable section
namespace Go.Proofs.YtafbipadnnmccaaDoor.W
open Go.Proofs.YtafbipadnnmccaaDoor.Ev Go.RowKit
theorem proj8 (v0 v2 v3 v4 v5:V) (ds:List AD) (k:Ac->Rs):qak [0,2,3,4,5] (frD 62 [(0,v0),(2,v2),(3,v3),(4,v4),(5,v5)] ds) k=k (frD 62 [(0,v0),(2,v2),(3,v3),(4,v4),(5,v5)] ds):=by kernel_rfl
section
variable {K:FuncId->Option KF} {S U T:St} {i M:Nat} {s:Bs} {toks:List Tok} {waits:List (Nat×Bs)} {vT vW:V}
abbrev StR (o:Rd) (S:St) (M:Nat) (s:Bs) (i:Nat) (toks:List Tok) (waits:List (Nat×Bs)) (vT vW:V) (r:Rs) (rn ro:St->Rs):Prop:=match o with
 | none=>∃U,r=rn U/\LS U (M+4) (M+2) s i toks waits vT vW/\Grew (fun _=>False) S U
 | some (.ok q)=>∃U vT' vW',r=ro U/\LS U (M+4) (M+2) s q.1 q.2.1 q.2.2 vT' vW'/\Grew (fun x=>x=M+2\/M+4<=x) S U
 | some (.error e)=>LexR (.error e) S M r
abbrev AllR (o:Except Flt (Nat×List Tok×List (Nat×Bs))) (S:St) (M:Nat) (s:Bs) (r:Rs) (ro:St->Rs):Prop:=match o with
 | .ok q=>∃U vT' vW',r=ro U/\LS U (M+4) (M+2) s q.1 q.2.1 q.2.2 vT' vW'/\Grew (fun x=>x=M+2\/M+4<=x) S U
 | .error e=>LexR (.error e) S M r
theorem AllR.step {o:Except Flt (Nat×List Tok×List (Nat×Bs))} {r r':Rs} {ro:St->Rs} (hr:r=r') (g:Grew (fun _=>False) S T) (h:AllR o T M s r' ro):AllR o S M s r ro:=by
 subst hr;cases o with
 | ok q=>
  obtain⟨U,vT',vW',b1,b2,b3⟩:=h;exact⟨U,vT',vW',b1,b2,(g.mono fun x _ hx=>hx.elim).trans b3⟩
 | error e=>exact LexR.after (o:=.error e) (g.mono fun x _ hx=>hx.elim) h
theorem StR.all {o:Except Flt (Nat×List Tok×List (Nat×Bs))} {r:Rs} {rn ro:St->Rs} (h:StR (some o) S M s i toks waits vT vW r rn ro):AllR o S M s r ro:=by
 cases o with
 | ok q=>exact h
 | error e=>exact h
theorem Lx.w3f {b:Nat} (ho:S.on=false) (h:Lx S b s i vT vW):ld1 (.ptr b 3) S=some (vW,S):=by
 obtain⟨t,h1,_,_,_,h2⟩:=h.ex;exact h1.ld1 ho big4 (by decide) h2
theorem Lx.t2f {b:Nat} (ho:S.on=false) (h:Lx S b s i vT vW):ld1 (.ptr b 2) S=some (vT,S):=by
 obtain⟨t,h1,_,_,h2,_⟩:=h.ex;exact h1.ld1 ho big4 (by decide) h2
theorem rd_step {self:EV} {o:Rd} {p q f:Nat} {nk:Ac->St->Rs} {ek:Nat->Ac->St->Rs} (h:LS S (M+4) (M+2) s i toks waits vT vW) (hE:Env8 S M) (hp:p<4) (hf:(fnRow M)[p]?=some (.fn (.func f) [.ptr (M+2) 0] [])) (hx:E0.ext.get f=none) (hb:qdj E0 f=true) (hr:RdR o S (M+4) (M+2) s i toks waits vT vW (self.f f [.ptr (M+2) 0] S)) (v0:V) :
 StR o S M s i toks waits vT vW (L8_58 self qa3 nk ek (q+1) (ds8 M) v0 (.ptr M 0) (.ptr (M+1) 0) (.ptr (M+2) 0) (.slice (M+3) 0 4 4) (.slice (M+3) 0 4 4) (.int .i64 4) (.int .i64 (p:Int)) S) (fun U=>L8_58 self qa3 nk ek q (ds8 M) v0 (.ptr M 0) (.ptr (M+1) 0) (.ptr (M+2) 0) (.slice (M+3) 0 4 4) (.slice (M+3) 0 4 4) (.int .i64 4) (.int .i64 ((p+1:Nat):Int)) U) (fun U=>ek 4 (frD 62 [(0,v0),(2,.ptr M 0),(3,.ptr (M+1) 0),(4,.ptr (M+2) 0),(5,.slice (M+3) 0 4 4)] (ds8 M)) U):=by
 generalize hR:L8_58 self qa3 nk ek (q+1) (ds8 M) v0 (.ptr M 0) (.ptr (M+1) 0) (.ptr (M+2) 0) (.slice (M+3) 0 4 4) (.slice (M+3) 0 4 4) (.int .i64 4) (.int .i64 (p:Int)) S=R;rw[L8_58_eq,show V.int .i64 4=.int .i64 ((4:Nat):Int)from rfl,qdz,oB,dT hp,ifK_bool,cT,ixP_sl _ _ _ hp,oB]at hR;have hg:((fnRow M).map Ev.one)[p]?=some (Ev.one (.fn (.func f) [.ptr (M+2) 0] [])):=by rw[List.getElem?_map,hf]; rfl
 have hld:ld1 (.ptr (M+3) p) S=some (.fn (.func f) [.ptr (M+2) 0] [],S):=hE.r.ld1 h.on hg;rw[hld,oB]at hR;dsimp only at hR;rw[ql0 hx hb,show [V.ptr (M+2) 0]++[]++[]=[V.ptr (M+2) 0]from rfl]at hR;have hhi:=h.hi;cases o with
 | none=>
  obtain⟨U,r1,r2,r3⟩:=hr;rw[r1,qct,ifK_bool,cF,qb0 (by omega),oB]at hR;exact⟨U,hR.symm,r2,r3⟩
 | some r=>
  cases r with
  | ok r=>
   obtain⟨U,vT',vW',r1,r2,r3⟩:=hr;rw[r1,qct,ifK_bool,cT]at hR;exact⟨U,vT',vW',hR.symm,r2,r3⟩
  | error e=>
   rw[<- hR];exact bad_lex (by rfl) (by kernel_rfl) (by kernel_rfl) h.on hhi hE hr
theorem rd_all (hK:RefL K) (d q:Nat) {nk:Ac->St->Rs} {ek:Nat->Ac->St->Rs} (h:LS S (M+4) (M+2) s i toks waits vT vW) (hE:Env8 S M) (hI:Inv s i toks waits) (hs:s.length<=5000) (hi:i<s.length) (hd:18*s.length+600<=d) (v0:V) :
 AllR (qk6 s i toks waits) S M s (L8_58 (ev E0 K (d+20)) qa3 nk ek (q+5) (ds8 M) v0 (.ptr M 0) (.ptr (M+1) 0) (.ptr (M+2) 0) (.slice (M+3) 0 4 4) (.slice (M+3) 0 4 4) (.int .i64 4) (.int .i64 0) S) (fun U=>ek 4 (frD 62 [(0,v0),(2,.ptr M 0),(3,.ptr (M+1) 0),(4,.ptr (M+2) 0),(5,.slice (M+3) 0 4 4)] (ds8 M)) U):=by
 have tl:=hI.t;have wl:=hI.w;have htx:∀x∈toks,x.text.length<9223372036854770000:=fun x hx=>by have:=hI.tx x hx; omega
 have s1:=rd_step (p:=0) (q:=q+4) (f:=19) (nk:=nk) (ek:=ek) h hE (by omega) rfl (by kernel_rfl) (by kernel_rfl) (line_run hK (d+9) h hs hi (by omega) (by omega) hI.ix (by omega)) v0;rw[show((0:Nat):Int)=0 from rfl]at s1;unfold qk6;cases hl:linD s i toks waits with
 | some r=>
  rw[hl]at s1;exact StR.all s1
 | none=>
  rw[hl]at s1;obtain⟨U1,a1,a2,a3⟩:=s1;have hh:=h.hi;have e1:=hE.grew hh a3 (fun x hx=>hx.elim);refine AllR.step a1 a3 ?_;have s2:=rd_step (p:=1) (q:=q+3) (f:=20) (nk:=nk) (ek:=ek) a2 e1 (by omega) rfl (by kernel_rfl) (by kernel_rfl) (remark_run hK (d+14) a2 hs hi) v0;cases hr:remD s i toks waits with
  | some r=>
   rw[hr]at s2;exact StR.all s2
  | none=>
   rw[hr]at s2;obtain⟨U2,b1,b2,b3⟩:=s2;have e2:=e1.grew a2.hi b3 (fun x hx=>hx.elim);refine AllR.step b1 b3 ?_;have s3:=rd_step (p:=2) (q:=q+2) (f:=21) (nk:=nk) (ek:=ek) b2 e2 (by omega) rfl (by kernel_rfl) (by kernel_rfl) (mark_run hK (d+11) b2 hs hi (by omega)) v0;cases hm:mrkD s i toks waits with
   | some r=>
    rw[hm]at s3;exact StR.all s3
   | none=>
    rw[hm]at s3;obtain⟨U3,c1,c2,c3⟩:=s3;have e3:=e2.grew b2.hi c3 (fun x hx=>hx.elim);refine AllR.step c1 c3 ?_;exact StR.all (rd_step (p:=3) (q:=q+1) (f:=22) (nk:=nk) (ek:=ek) c2 e3 (by omega) rfl (by kernel_rfl) (by kernel_rfl) (word_run hK (d+17) c2 hs hi (by omega) (by omega) htx (by omega)) v0)
theorem lex_loop (hK:RefL K) (d:Nat) (hs:s.length<=5000) (hd:18*s.length+600<=d) :
 ∀(n q i:Nat) (toks:List Tok) (waits:List (Nat×Bs)) (vT vW:V) (S:St),LS S (M+4) (M+2) s i toks waits vT vW->Env8 S M->Inv s i toks waits->i<=s.length->s.length+1<=n+i->n<q->
 LexR (lexD n s i toks waits) S M (L8_50 (ev E0 K (d+20)) qa3 (R8_28 (ev E0 K (d+20)) qa3 (qbt E0 (ev E0 K (d+20)) Tryd.f8) qas) (exB 0 (R8_28 (ev E0 K (d+20)) qa3 (qbt E0 (ev E0 K (d+20)) Tryd.f8) qas) qas) q (ds8 M) (sv s) (.ptr M 0) (.ptr (M+1) 0) (.ptr (M+2) 0) (.slice (M+3) 0 4 4) S)
 | n,0,i,toks,waits,vT,vW,S,h,hE,hI,hi,hn,hq=>absurd hq (Nat.not_lt_zero _)
 | 0,q+1,i,toks,waits,vT,vW,S,h,hE,hI,hi,hn,hq=>by omega
 | n+1,q+1,i,toks,waits,vT,vW,S,h,hE,hI,hi,hn,hq=>by
  have ih:=lex_loop hK d hs hd n q;generalize hNK:R8_28 (ev E0 K (d+20)) qa3 (qbt E0 (ev E0 K (d+20)) Tryd.f8) qas=NK at ih ⊢;rw[L8_50_eq,qml];obtain⟨U,k1,k2,k3⟩:=ski_run hK (d+16) hs (R8_51 (ev E0 K (d+20)) qa3 (qiq (ev E0 K (d+20)) qa3 NK (exB 0 NK qas) q) (exB 1 (qiq (ev E0 K (d+20)) qa3 NK (exB 0 NK qas) q) (exB 0 NK qas))) (exB 2 (R8_51 (ev E0 K (d+20)) qa3 (qiq (ev E0 K (d+20)) qa3 NK (exB 0 NK qas) q) (exB 1 (qiq (ev E0 K (d+20)) qa3 NK (exB 0 NK qas) q) (exB 0 NK qas))) (exB 1 (qiq (ev E0 K (d+20)) qa3 NK (exB 0 NK qas) q) (exB 0 NK qas))) (ds8 M) (sv s) (.ptr M 0) (.ptr (M+1) 0) (.slice (M+3) 0 4 4) (s.length+1) i qa3 S h hi (by omega) (by unfold qa3; omega);obtain⟨i1,i2,i3⟩:=qhe (s.length+1) s i hi (by omega);generalize qjn (s.length+1) s i=i' at *;have hh:=h.hi;have eU:=hE.grew hh k3 (fun x hx=>.inl hx);have gU:Grew (fun x=>M<=x) S U:=k3.mono fun x _ hx=>by omega
  have hIU:Inv s i' toks waits:=⟨by have:=hI.t; omega,by have:=hI.w; omega,hI.ix,hI.tx⟩
  rw[k1,exB_same,R8_51_eq,qeo hK (d+19) k2.on k2.lx,qct,qfy,oB,ifK_bool];refine LexR.after gU ?_;by_cases hlt:i'<s.length
  . rw[dT hlt,Bool.not_true,cF,iP hlt,show lnS (.slice (M+3) 0 4 4) U=some (.int .i64 4,U)from rfl,oB]
    dsimp only;have hra:=rd_all hK d (qa3-5) (nk:=fun a s=>qak [0,2,3,4,5] a fun a=>qiq (ev E0 K (d+20)) qa3 NK (exB 0 NK qas) q a s) (ek:=exB 4 (fun a s=>qak [0,2,3,4,5] a fun a=>qiq (ev E0 K (d+20)) qa3 NK (exB 0 NK qas) q a s) (exB 1 (qiq (ev E0 K (d+20)) qa3 NK (exB 0 NK qas) q) (exB 0 NK qas))) k2 eU hIU hs hlt hd (sv s);rw[show qa3-5+5=qa3 by unfold qa3; omega]at hra;cases hst:qk6 s i' toks waits with
    | error e=>
     rw[hst]at hra;exact hra
    | ok r=>
     rw[hst]at hra;obtain⟨U2,vT',vW',b1,b2,b3⟩:=hra;obtain⟨j1,j2,j3⟩:=qni hIU hlt (i3 hlt).1 (i3 hlt).2 hst;rw[b1];dsimp only;rw[exB_same,proj8,N8_50_eq];exact LexR.after (b3.mono fun x _ hx=>by omega) (ih r.1 r.2.1 r.2.2 vT' vW' U2 b2 (eU.grew k2.hi b3 (fun x hx=>hx)) j3 j2 (by omega) (by omega))
  . rw[dF hlt,nF,cT,iN hlt]
    rw[show ∀(A:Ac->St->Rs) (B:Nat->Ac->St->Rs) (a:Ac) (X:St),exB 1 A B 0 a X=B 0 a X from fun _ _ _ _=>rfl,exB_same,<- hNK,R8_28_eq,nilK,oB,show faP 3 false 1 (.ptr (M+2) 0)=some (.ptr (M+2) 3)from rfl,oB,k2.lx.w3f k2.on,oB];dsimp only;rw[k2.wt.len,oB,lM];dsimp only;rw[gtr0,oB,ifK_bool];by_cases hw:waits=[]
    . subst hw
      rw[iP rfl,show decide (0<([]:List (Nat×Bs)).length)=false from rfl,cF,oB,show faP 2 false 1 (.ptr (M+2) 0)=some (.ptr (M+2) 2)from rfl,oB,k2.lx.t2f k2.on,oB];dsimp only;obtain⟨rT,r1,r2⟩:=k2.tk;obtain⟨q1,q2,q3⟩:=qhq r1;obtain⟨T2,c1,c2,c3,c4⟩:=eU.d.st_one k2.on vT q1 q2 q3;have on2:=c3.on.trans k2.on;have hh2:=k2.hi;have e2:AgAt T2 (M+1) 24 1 (Ev.one .niliface):=eU.e.grew (by omega) (by omega) c3;obtain⟨T3,d1,d2,d3,d4⟩:=e2.st_one on2 .niliface rfl rfl rfl;rw[c1,oB];dsimp only;rw[d1,oB];dsimp only;rw[fin8 (pd:=M) (pe:=M+1) (by rfl) (by kernel_rfl) (by kernel_rfl) (d3.on.trans on2) (c2.grew (by omega) (by omega) d3) d2];have hvb:∀r,qa8 vT=some r->M+4<=r:=fun r hr=>(k2.tb r hr).1;refine⟨T3,vT,rT,rfl,(r1.grew (fun r hr hx=>by have:=hvb r hr; omega) c3).grew (fun r hr hx=>by have:=hvb r hr; omega) d3,((r2.grew c3 fun x hx he=>by omega).grew d3 fun x hx he=>by omega).mono fun x hx=>⟨by omega,by omega⟩,fun r hr=>by have:=hvb r hr; omega,(c3.mono fun x _ hx=>by omega).trans (d3.mono fun x _ hx=>by omega)⟩
    . have hpos:0<waits.length:=List.length_pos_iff.2 hw
      rw[iN hw,dT hpos,cT,lnStr_sv,oB];dsimp only;exact bad_lex (by rfl) (by kernel_rfl) (by kernel_rfl) k2.on k2.hi eU (bad0 (qcf hK (d+19) k2.on 19 s.length))
end
theorem build_52l:qa7 E0 52 [(0,(.int .i64 3)),(1,(.int .i64 4000))]=some (.agg 2 (qb6 3 4000)):=by kernel_rfl
theorem build_lx0 (s:Bs):qa7 E0 57 [(0,sv s)]=some (.agg 4 (Tr.ofListFrom .nil [sv s,.int .i64 0,.nilslice,.nilslice] 0)):=by kernel_rfl
section
variable {K:FuncId->Option KF} {S U T:St} {s:Bs}
theorem lex_run (hK:RefL K) (d:Nat) (s:Bs) (ho:S.on=false) (hs:s.length<=5000) (hd:18*s.length+600<=d):LexR (qin s) S S.next ((ev E0 K (d+21)).f 8 [sv s] S):=by
 have hF:∀r,F8 (ev E0 K (d+20)) qa3 (sv s) S=some r->(ev E0 K (d+21)).f 8 [sv s] S=some r:=fun r e=>rv8 hK e
 suffices hq:LexR (qin s) S S.next (F8 (ev E0 K (d+20)) qa3 (sv s) S) by
  cases ho:qin s with
  | ok t=>
   rw[ho]at hq;obtain⟨U,v,rT,h1,h2⟩:=hq;exact⟨U,v,rT,hF _ h1,h2⟩
  | error e=>
   rw[ho]at hq;obtain⟨U,x,h1,h2⟩:=hq;exact⟨U,x,hF _ h1,h2⟩
 obtain⟨a1,a2,a3⟩:=qar ho 22 1 (Ev.one .nilslice);have on1:=a2.on.trans ho;obtain⟨b1,b2,b3⟩:=qar on1 24 1 (Ev.one .niliface);have on2:=b2.on.trans on1;have g2:Grew (fun x=>S.next<=x) S (nwP 24 1 (Ev.one .niliface) (nwP 22 1 (Ev.one .nilslice) S).2).2:=(a2.mono fun _ _ h=>h.elim).trans (b2.mono fun _ _ h=>h.elim);have n2:(nwP 24 1 (Ev.one .niliface) (nwP 22 1 (Ev.one .nilslice) S).2).2.next=S.next+2:=by rw[b3,a3]
 rw[a3]at b1;have d0:AgAt (nwP 24 1 (Ev.one .niliface) (nwP 22 1 (Ev.one .nilslice) S).2).2 S.next 22 1 (Ev.one .nilslice):=a1.grew (by omega) (fun h=>h) b2
 rw[F8_eq,oB,oB,qan,qan,a3,lnStr_sv,oB];dsimp only;rw[show(V.int .i64 4000)=.int .i64 ((4000:Nat):Int)from rfl,binV_ii,intsV_gtr,oB,ifK_bool];generalize (nwP 24 1 (Ev.one .niliface) (nwP 22 1 (Ev.one .nilslice) S).2).2=S2 at *;unfold qin;by_cases hl:4000<s.length
 . rw[iP hl,show decide (((s.length:Nat):Int)>((4000:Nat):Int))=true by simp; omega,cT,show qa7 E0 52 [(0,(.int .i64 3)),(1,(.int .i64 ((4000:Nat):Int)))]=some (.agg 2 (qb6 3 4000))from build_52l,oB,show ∀T:Tr V,boxK 52 (.agg 2 T) S2=some (.ptr S2.next 0,(nwP 52 2 T S2).2)from fun T=>rfl,oB]
   dsimp only;obtain⟨c1,c2,c3⟩:=qar on2 52 2 (qb6 3 4000);have on3:=c2.on.trans on2;obtain⟨S4,e1,e2,e3,e4⟩:=(d0.grew (by omega) (fun h=>h) c2).st_one on3 .nilslice rfl rfl rfl;have on4:=e3.on.trans on3;have hb4:AgAt S4 (S.next+1) 24 1 (Ev.one .niliface):=(b1.grew (by omega) (fun h=>h) c2).grew (by omega) (by omega) e3;obtain⟨S5,f1,f2,f3,f4⟩:=hb4.st_one on4 (.iface 51 (.ptr S2.next 0)) rfl rfl rfl;rw[e1,oB];dsimp only;rw[f1,oB];dsimp only;rw[(e2.grew (by omega) (by omega) f3).ldr_one (f3.on.trans on4),oB];dsimp only;rw[f2.ldr_one (f3.on.trans on4),oB];exact⟨S5,S2.next,rfl,(c1.grew (by omega) (by omega) e3).grew (by omega) (by omega) f3,by omega,by omega,((g2.trans (c2.mono fun _ _ h=>h.elim)).trans (e3.mono fun x _ hx=>by omega)).trans (f3.mono fun x _ hx=>by omega)⟩
 . rw[iN hl,show decide (((s.length:Nat):Int)>((4000:Nat):Int))=false by simp; omega,cF,build_lx0,oB,show ∀T:Tr V,boxK 57 (.agg 4 T) S2=some (.ptr S2.next 0,(nwP 57 4 T S2).2)from fun T=>rfl,oB]
   dsimp only;obtain⟨c1,c2,c3⟩:=qar on2 57 4 (Tr.ofListFrom .nil [sv s,.int .i64 0,.nilslice,.nilslice] 0);have on3:=c2.on.trans on2;have lx3:Lx (nwP 57 4 (Tr.ofListFrom .nil [sv s,.int .i64 0,.nilslice,.nilslice] 0) S2).2 S2.next s 0 .nilslice .nilslice:=⟨_,c1,by kernel_rfl,by kernel_rfl,by kernel_rfl,by kernel_rfl⟩
   have d3:=d0.grew (by omega) (fun h=>h) c2;have b4:=b1.grew (by omega) (fun h=>h) c2;have g3:=g2.trans (c2.mono fun x _ h=>(h.elim:S.next<=x));generalize (nwP 57 4 (Tr.ofListFrom .nil [sv s,.int .i64 0,.nilslice,.nilslice] 0) S2).2=S3 at *
   obtain⟨S4,e1,e2,e3,e4⟩:=bsP_ones on3 34 (Ev.one .nilfn) (fnRow S.next) (fun v hv=>by
    unfold fnRow at hv;simp only[List.mem_cons,List.not_mem_nil,or_false]at hv
    rcases hv with rfl|rfl|rfl|rfl<;>exact⟨rfl,rfl,rfl,rfl⟩) (by show 4<big; unfold big; decide)
   have hbs:bsP 34 1 4 (Ev.one .nilfn) [(0,(.fn (.func 19) [.ptr (S.next+2) 0] [])),(1,(.fn (.func 20) [.ptr (S.next+2) 0] [])),(2,(.fn (.func 21) [.ptr (S.next+2) 0] [])),(3,(.fn (.func 22) [.ptr (S.next+2) 0] []))] S3=some (.slice S3.next 0 4 4,S4):=e1 none;have n3:S3.next=S.next+3:=by rw[c3,n2]
   have n4:S4.next=S.next+4:=by rw[e4,n3]
   rw[n2,hbs,oB,n3,adOf_fn];dsimp only;rw[n2]at lx3;rw[n3]at e2;have on4:=e3.on.trans on3;have L4:LS S4 (S.next+4) (S.next+2) s 0 [] [] .nilslice .nilslice:=⟨on4,by omega,by omega,lx3.grew (by omega) (fun h=>h) e3,⟨[],.inl ⟨rfl,rfl⟩,rfl,fun i t ht=>by simp at ht⟩,.inl ⟨rfl,rfl⟩,(fun r hr=>by cases hr),(fun r hr=>by cases hr)⟩
   have E4:Env8 S4 S.next:=⟨d3.grew (by omega) (fun h=>h) e3,b4.grew (by omega) (fun h=>h) e3,e2⟩
   have I4:Inv s 0 [] []:=⟨lR _,lR _,(fun w hw=>by cases hw),(fun x hx=>by cases hx)⟩
   exact LexR.after (g3.trans (e3.mono fun x _ h=>h.elim)) (lex_loop hK d hs hd (s.length+1) qa3 0 [] [] .nilslice .nilslice S4 L4 E4 I4 (Nat.zero_le _) (by omega) (by unfold qa3; omega))
end
section
variable {K:FuncId->Option KF} {S:St}
theorem leqN (a b:Nat):qa4 E0 .leq 3 false false (.int .i64 (a:Int)) (.int .i64 (b:Int))=some (.bool (decide (a<=b))):=by
 rw[binV_ii,intsV_leq]
 congr 2
 simp
theorem qfm (s:Bs) (S:St):qbf (sv s) S=some (.int .i64 (s.length:Int),S):=lnStr_sv ..
theorem qdy (hK:RefL K) (m:Nat) (s:Bs) (i:Nat) (t:Bs) (hi:i<1000000000) (ht:t.length<1000000000) (h0:t≠[]) (S:St):(ev E0 K (m+1)).f 26 [sv s,.int .i64 (i:Int),sv t] S=some (.ret (.bool (atD s i t)),S):=rv26 hK (by
 show F26 (ev E0 K m) qa3 (sv s) (.int .i64 (i:Int)) (sv t) S=_;rw[F26_eq,qfm,b_s];dsimp only;rw[addN (by omega),b_s,qfm,b_s];dsimp only;rw[leqN,b_s];by_cases h:i+t.length<=s.length
 . rw[dT h]
   simp only[g_t,b_s,c_t];rw[qfm,b_s];dsimp only;rw[addN (by omega),b_s,qap qij s (qav .i64 .i64 (by omega) h) h,b_s];dsimp only;rw[eqStr,b_s,p_b,c_t,b_s,show i+t.length-i=t.length by omega];rfl
 . rw[dF h]
   simp only[g_t,b_s,c_f,p_b]
   have:atD s i t=false:=by
    cases ha:atD s i t with
    | false=>rfl
    | true=>exact absurd (qb1 ha h0) h
   rw[this])
theorem has75_loop (hK:RefL K) (m N:Nat) (nk:Ac->St->Rs) (ek:Nat->Ac->St->Rs) (t:Bs) (c:UInt8) (ht:t.length<1000000000) :
 ∀(l:Bs) (n q:Nat),t.drop n=l->l.length<q->L75_4 (ev E0 K m) N nk ek q (sv t) (.int .u8 (c.toNat:Int)) (.int .i64 (n:Int)) S=if l.contains c then some (.ret (.bool true),S)else ek 0 (fr 17 []) S
 | _,_,0,_,hq=>by omega
 | [],n,q+1,hl,hq=>by
  rw[L75_4_eq,qfm,b_s];dsimp only;rw[qdz,b_s,dF (by have:=qc4 hl; omega),i_b,c_f];rfl
 | x::l,n,q+1,hl,hq=>by
  obtain⟨hlt,hc,hr,_⟩:=qcy hl;have ih:=has75_loop hK m N nk ek t c ht l (n+1) q hr (by rw[List.length_cons]at hq; omega);rw[L75_4_eq,qfm,b_s];dsimp only;rw[qdz,b_s,dT hlt,i_b,c_t,qbl t .i64 n hlt,hc,b_s]
  have e:qa4 E0 .eql 5 false false (.int .u8 (x.toNat:Int)) (.int .u8 (c.toNat:Int))=some (.bool (c==x)):=by
   rw[binV_ii,intsV_eql]
   congr 2
   rw[Bool.eq_iff_iff,beq_iff_eq,decide_eq_true_iff,<- UInt8.toNat_inj];constructor
   . intro h; omega
   . intro h; omega
  rw[e,b_s,i_b,List.contains_cons];cases c==x with
  | true=>rw[c_t,Bool.true_or,iP rfl]
  | false=>rw[c_f,Bool.false_or,qb0 (by omega),b_s,ih]
theorem hasd_run (hK:RefL K) (m:Nat) (t:Bs) (c:UInt8) (ht:t.length<1000000000) (S:St):(ev E0 K (m+1)).f 75 [sv t,.int .u8 (c.toNat:Int)] S=some (.ret (.bool (t.contains c)),S):=rv75 hK (by
 show F75 (ev E0 K m) qa3 (sv t) (.int .u8 (c.toNat:Int)) S=_;rw[F75_eq,show V.int .i64 0=.int .i64 ((0:Nat):Int)from rfl,has75_loop hK m _ _ _ t c ht t 0 qa3 rfl (by unfold qa3; omega)];split
 . rename_i h; rw[h]
 . rename_i h; rw[exB_same,R75_1_eq,Bool.eq_false_iff.2 h])
theorem digd_run (hK:RefL K) (m:Nat) (c:UInt8) (S:St):(ev E0 K (m+1)).f 93 [.int .u8 (c.toNat:Int)] S=some (.ret (.bool (digD c)),S):=rv93 hK (by
 show F93 (ev E0 K m) qa3 (.int .u8 (c.toNat:Int)) S=_;rw[F93_eq,digD_nat,show V.int .u8 48=.int .u8 ((48:Nat):Int)from rfl,show V.int .u8 57=.int .u8 ((57:Nat):Int)from rfl,u8ge,oB];cases decide (48<=c.toNat)with
 | true=>simp only[oB,qaw,qaf,cT,cF,pickV_bool,Bool.true_and,u8le]
 | false=>rfl)
theorem letd_run (hK:RefL K) (m:Nat) (c:UInt8) (S:St):(ev E0 K (m+1)).f 102 [.int .u8 (c.toNat:Int)] S=some (.ret (.bool (letD c)),S):=rv102 hK (by
 show F102 (ev E0 K m) qa3 (.int .u8 (c.toNat:Int)) S=_;rw[F102_eq,letD_nat,show V.int .u8 97=.int .u8 ((97:Nat):Int)from rfl,show V.int .u8 122=.int .u8 ((122:Nat):Int)from rfl,show V.int .u8 65=.int .u8 ((65:Nat):Int)from rfl,show V.int .u8 90=.int .u8 ((90:Nat):Int)from rfl,show V.int .u8 95=.int .u8 ((95:Nat):Int)from rfl,u8ge,oB];have h1:=u8le c 122;have h2:=u8ge c 65;have h3:=u8le c 90;have h4:=u8eq c 95;generalize decide (c.toNat<=122)=q1 at h1 ⊢;generalize decide (65<=c.toNat)=q2 at h2 ⊢;generalize decide (c.toNat<=90)=q3 at h3 ⊢;generalize decide (c.toNat=95)=q4 at h4 ⊢;generalize decide (97<=c.toNat)=q0
 cases q0<;>cases q1<;>cases q2<;>cases q3<;>cases q4<;>simp only[oB,qaw,qaf,qay,nF,Bool.not_true,cT,cF,pickV_bool,h1,h2,h3,h4]<;>rfl)
theorem name_loop (hK:RefL K) (m N:Nat) (nk:Ac->St->Rs) (ek:Nat->Ac->St->Rs) (s:Bs) (i:Nat) (hi:i<1000000000) (hs:s.length<1000000000) :
 ∀(l:Bs) (n q:Nat),s.drop (i+n)=l->l.length<q->n<1000000000->L92_5 (ev E0 K (m+1)) N nk ek q (sv s) (.int .i64 (i:Int)) (.int .i64 (n:Int)) S=ek 0 (fr 35 [(5,.int .i64 (namD l n:Int))]) S
 | _,_,0,_,hq,_=>by omega
 | [],n,q+1,hl,hq,hn=>by
  rw[L92_5_eq,addN (by omega),b_s,qfm,b_s];dsimp only;rw[qdz,b_s,dF (by have:=qc4 hl; omega)];simp only[g_t,qf1,b_s,c_f,callP_ret,p_b,i_b];rfl
 | x::l,n,q+1,hl,hq,hn=>by
  obtain⟨hlt,hc,hr,_⟩:=qcy hl;have ih:=name_loop hK m N nk ek s i hi hs l (n+1) q (by rw[<- hr]; congr 1) (by rw[List.length_cons]at hq; omega) (by omega);have e1:=letd_run hK m x S;have e2:=digd_run hK m x S;have e3:=qbl s .i64 (i+n) hlt;rw[hc]at e3;have e4:=addN (a:=i) (c:=n) (by omega);rw[L92_5_eq,e4,b_s,qfm,b_s];dsimp only;rw[qdz,b_s,dT hlt];simp only[g_t,b_s,c_t,e4];rw[e3,b_s,e1,callP_ret];unfold namD;cases letD x with
  | true=>
   simp only[g_t,g_f,qf1,b_s,c_t,c_f,callP_ret,p_b,i_b,Bool.not_true,Bool.true_or,if_true];rw[qb0 (by omega),b_s,ih]
  | false=>
   simp only[g_t,g_f,qf1,b_s,c_t,c_f,nF,Bool.false_or];rw[gtr0,b_s];by_cases h0:0<n
   . rw[dT h0]
     simp only[g_t,g_f,qf1,b_s,c_t,c_f,nF,Bool.true_and,e4];rw[e3,b_s,e2,callP_ret];simp only[g_t,g_f,qf1,b_s,c_t,c_f,nF,Bool.true_and,p_b,i_b];cases digD x with
     | true=>rw[c_t,iP rfl,qb0 (by omega),b_s,ih]
     | false=>rw[c_f,iN (by simp)]
   . rw[dF h0]
     simp only[g_t,g_f,qf1,b_s,c_t,c_f,nF,Bool.false_and,callP_ret,p_b,i_b,Bool.false_eq_true,if_false]
theorem name_run (hK:RefL K) (m:Nat) (s:Bs) (i:Nat) (hi:i<1000000000) (hs:s.length<1000000000) (S:St):(ev E0 K (m+2)).f 92 [sv s,.int .i64 (i:Int)] S=some (.ret (.int .i64 (namD (s.drop i) 0:Int)),S):=rv92 hK (by
 show F92 (ev E0 K (m+1)) qa3 (sv s) (.int .i64 (i:Int)) S=_
 rw[F92_eq,show V.int .i64 0=.int .i64 ((0:Nat):Int)from rfl,name_loop hK m _ _ _ s i hi hs (s.drop i) 0 qa3 rfl (by rw[List.length_drop]; unfold qa3; omega) (by omega),exB_same,R92_2_eq])
theorem qk1 (hK:RefL K) (m:Nat) (s:Bs) (i:Nat) (hi:i<1000000000) (hs:s.length<1000000000) (mk:Bs) (hm:mk.length<1000000000) (S:St):(ev E0 K (m+3)).f 77 [sv s,.int .i64 (i:Int),sv mk] S=some (.ret (.int .i64 (qcw (s.drop i) mk:Int)),S):=rv77 hK (by
 show F77 (ev E0 K (m+2)) qa3 (sv s) (.int .i64 (i:Int)) (sv mk) S=_;rw[F77_eq,name_run hK m s i hi hs,callP_ret,eql0,b_s];unfold qcw;by_cases h0:namD (s.drop i) 0=0
 . rw[dT h0,iP h0]
   simp only[g_t,b_s,c_t];rw[qfm,b_s];dsimp only;rw[qdz,b_s,p_b,c_t,b_s];by_cases hlt:i<s.length
   . obtain⟨c,l,hd⟩:∃c l,s.drop i=c::l:=by
      cases hd:s.drop i with
      | nil=>have:=qc4 hd; omega
      | cons c l=>exact⟨c,l,rfl⟩
     obtain⟨_,hc,_,_⟩:=qcy hd;have e3:=qbl s .i64 i hlt;rw[hc]at e3;rw[hd]at h0 ⊢;dsimp only;rw[dT hlt];simp only[g_t,b_s,c_t];rw[e3,b_s,digd_run hK (m+1) c,callP_ret];cases hD:digD c with
     | true=>
      simp only[g_t,g_f,b_s,c_t,c_f,Bool.not_true,callP_ret,p_b,Bool.true_or,if_true,i_b];rfl
     | false=>
      simp only[g_t,g_f,b_s,c_t,c_f,nF,Bool.false_or];rw[e3,b_s,hasd_run hK (m+1) mk c hm,callP_ret];simp only[p_b,c_f,b_s,c_t,i_b];cases mk.contains c with
      | true=>rw[c_t,iP rfl]; rfl
      | false=>rw[c_f,iN (by simp),h0]
   . have hd:s.drop i=[]:=List.drop_eq_nil_of_le (by omega)
     rw[hd]at h0 ⊢;rw[dF hlt];simp only[g_t,qf1,b_s,c_f,callP_ret,p_b,i_b];rfl
 . rw[dF h0,iN h0]
   simp only[g_t,qf1,b_s,c_f,callP_ret,p_b,i_b])
end
theorem qj0 {s:Bs} {i:Nat} (h:i<s.length) (c:UInt8):qim s i c=if byt s i=c then some i else qim s (i+1) c:=by
 unfold qim byt;rw[List.drop_eq_getElem_cons h,List.findIdx?_cons,List.getD_eq_getElem?_getD,List.getElem?_eq_getElem h,Option.getD_some];by_cases hc:s[i]=c
 . rw[iP hc,iP (beq_iff_eq.2 hc)]
   simp
 . rw[iN hc,iN (by rw[beq_iff_eq]; exact hc),Option.map_map]
   congr 1
   funext x
   show x+1+i=x+(i+1)
   omega
theorem ql8 {s:Bs} {i:Nat} (h:¬i<s.length) (c:UInt8):qim s i c=none:=by
 unfold qim;rw[List.drop_eq_nil_of_le (by omega)];rfl
def qjl (s:Bs) (i:Nat) (c:UInt8):Nat:=(qim s i c).getD s.length
theorem idxE_le {s:Bs} {i:Nat} (h:i<=s.length) (c:UInt8):i<=qjl s i c/\qjl s i c<=s.length:=by
 unfold qjl;cases hi:qim s i c with
 | none=>exact⟨h,lR _⟩
 | some k=>
  have:=qdu hi;exact⟨this.1,Nat.le_of_lt this.2⟩
def cloV:Option Nat->Int
 | none=>-1
 | some j=>(j:Int)-1
theorem cloV_s (j:Nat):cloV (some (j+1))=(j:Int):=by
 show((j+1:Nat):Int)-1=(j:Int)
 omega
section
variable {K:FuncId->Option KF} {S:St}
theorem scan76 (self:EV) (N:Nat) (nk:Ac->St->Rs) (ek:Nat->Ac->St->Rs) (s:Bs) (hs:s.length<1000000000) (v5:V) :
 ∀(m k q:Nat),k+m=s.length->m<q->L76_26 self N nk ek q (sv s) (.int .i64 (k:Int)) v5 S=ek 3 (fr 54 [(0,sv s),(1,.int .i64 (qjl s k 39:Int)),(5,v5)]) S
 | _,_,0,_,hq=>by omega
 | 0,k,q+1,hk,hq=>by
  rw[L76_26_eq,qfm,b_s];dsimp only;rw[qdz,dF (by omega),b_s];simp only[g_t,qf1,b_s,c_f,p_b,i_b];rw[show qjl s k 39=k by unfold qjl; rw[ql8 (by omega)]; exact(by omega:s.length=k)]
 | m+1,k,q+1,hk,hq=>by
  have hlt:k<s.length:=by omega
  have ih:=scan76 self N nk ek s hs v5 m (k+1) q (by omega) (by omega);have e:=u8neU (byt s k) 39;rw[show((39:UInt8).toNat:Int)=39 from rfl]at e;rw[L76_26_eq,qfm,b_s];dsimp only;rw[qdz,dT hlt,b_s];simp only[g_t,b_s,c_t];rw[qbl s .i64 k hlt,qb9 hlt,b_s,e,b_s,p_b,c_t,b_s,i_b];unfold qjl at ih ⊢;rw[qj0 hlt];by_cases hb:byt s k=39
  . rw[dT hb,iP hb,Bool.not_true,c_f]
    rfl
  . rw[dF hb,iN hb,nF,c_t,qb0 (by omega),b_s,ih]
def ClodOk (K:FuncId->Option KF) (n:Nat):Prop:=∀(d q:Nat) (S:St) (i deep:Nat) (s:Bs) (nk:Ac->St->Rs) (ek:Nat->Ac->St->Rs),s.length<1000000000->i<=s.length+1->0<deep->deep+s.length<=2000000000+i->n+3<=d->n<q->s.length+1<=n+i->ek 0 (fr 54 []) S=some (.ret (.int .i64 (-1)),S)->
 L76_4 (ev E0 K d) qa3 nk ek q (sv s) (.int .i64 (i:Int)) (.int .i64 (deep:Int)) S=some (.ret (.int .i64 (cloV (qgj n s i deep))),S)
def QuodOk (K:FuncId->Option KF) (n:Nat):Prop:=∀(d q:Nat) (S:St) (i:Nat) (s:Bs) (nk:Ac->St->Rs) (ek:Nat->Ac->St->Rs),s.length<1000000000->i<=s.length+1->n+3<=d->n<q->s.length+1<=n+i->ek 0 (fr 34 []) S=some (.ret (.int .i64 (-1)),S)->
 L91_3 (ev E0 K d) qa3 nk ek q (sv s) (.int .i64 (i:Int)) S=some (.ret (.int .i64 (cloV (qkx n s i))),S)
theorem clod_call (hK:RefL K) {n:Nat} (hC:ClodOk K n) (d:Nat) (S:St) (i:Nat) (s:Bs) (hs:s.length<1000000000) (hi:i<=s.length+1) (hd:n+3<=d) (hr:n<qa3) (hf:s.length+1<=n+i):(ev E0 K (d+1)).f 76 [sv s,.int .i64 (i:Int)] S=some (.ret (.int .i64 (cloV (qgj n s i 1))),S):=rv76 hK (by
 show F76 (ev E0 K d) qa3 (sv s) (.int .i64 (i:Int)) S=_
 rw[F76_eq,show V.int .i64 1=.int .i64 ((1:Nat):Int)from rfl,hC d qa3 S i 1 s _ _ hs hi (by omega) (by omega) hd hr hf (by rw[exB_same,R76_2_eq])])
theorem quod_call (hK:RefL K) {n:Nat} (hC:QuodOk K n) (d:Nat) (S:St) (i:Nat) (s:Bs) (hs:s.length<1000000000) (hi:i<=s.length+1) (hd:n+3<=d) (hr:n<qa3) (hf:s.length+1<=n+i):(ev E0 K (d+1)).f 91 [sv s,.int .i64 (i:Int)] S=some (.ret (.int .i64 (cloV (qkx n s i))),S):=rv91 hK (by
 show F91 (ev E0 K d) qa3 (sv s) (.int .i64 (i:Int)) S=_
 rw[F91_eq,hC d qa3 S i s _ _ hs hi hd hr hf (by rw[exB_same,R91_1_eq])])
theorem clod_step (hK:RefL K) {n:Nat} (hC:ClodOk K n) (hQ:QuodOk K n) (hn0:n<1000000000):ClodOk K (n+1):=by
 intro d q S i deep s nk ek hs hi hdp0 hdp hd hq hf hek;obtain⟨d',rfl⟩:∃d',d=d'+1:=⟨d-1,by omega⟩
 obtain⟨q',rfl⟩:∃q',q=q'+1:=⟨q-1,by omega⟩
 unfold qgj;rw[L76_4_eq,qfm,b_s];dsimp only;rw[qdz,b_s];by_cases hlt:i<s.length
 . rw[iP hlt,dT hlt,i_b,c_t,qbl s .i64 i hlt,qb9 hlt,b_s]
   have next:∀(j dp:Nat),i<=j->j<=s.length->0<dp->dp+s.length<=2000000001+j->R76_9 (ev E0 K (d'+1)) qa3 (qf7 (ev E0 K (d'+1)) qa3 nk ek q') (exB 1 (qf7 (ev E0 K (d'+1)) qa3 nk ek q') ek) (fr 54 [(0,sv s),(1,.int .i64 (j:Int)),(5,.int .i64 (dp:Int))]) S=some (.ret (.int .i64 (cloV (qgj n s (j+1) dp))),S):=fun j dp h1 h2 h3 h4=>by
    rw[R76_9_eq,qb0 (by omega),b_s,N76_4_eq];exact hC (d'+1) q' S (j+1) dp s nk ek hs (by omega) h3 (by omega) (by omega) (by omega) (by omega) hek
   have e92:=qd9 (byt s i) 92;have e39:=qd9 (byt s i) 39;have e34:=qd9 (byt s i) 34;have e40:=qd9 (byt s i) 40;have e41:=qd9 (byt s i) 41;rw[show((92:UInt8).toNat:Int)=92 from rfl]at e92;rw[show((39:UInt8).toNat:Int)=39 from rfl]at e39;rw[show((34:UInt8).toNat:Int)=34 from rfl]at e34;rw[show((40:UInt8).toNat:Int)=40 from rfl]at e40;rw[show((41:UInt8).toNat:Int)=41 from rfl]at e41;rw[e92,b_s,i_b];by_cases h92:byt s i=92
   . rw[iP h92,dT h92,c_t,qb0 (by omega),b_s,next (i+1) deep (by omega) (by omega) hdp0 (by omega)]
   rw[iN h92,dF h92,c_f,e39,b_s,i_b];by_cases h39:byt s i=39
   . rw[iP h39,dT h39,c_t,qb0 (by omega),b_s,scan76 _ _ _ _ s hs _ (s.length-(i+1)) (i+1) qa3 (by omega) (by unfold qa3; omega),exB_same]
     have hle:=idxE_le (s:=s) (i:=i+1) (by omega) 39;rw[next (qjl s (i+1) 39) deep (by omega) hle.2 hdp0 (by omega)];unfold qjl;cases hx:qim s (i+1) 39 with
     | some k=>rfl
     | none=>
      simp only[Option.getD_none];cases n with
      | zero=>omega
      | succ n=>
       unfold qgj;rw[iN (by omega)]
   rw[iN h39,dF h39,c_f,e34,b_s,i_b];by_cases h34:byt s i=34
   . rw[iP h34,dT h34,c_t,qb0 (by omega),b_s,quod_call hK hQ d' S (i+1) s hs (by omega) (by omega) (by unfold qa3; omega) (by omega),callP_ret,lt0,b_s,i_b]
     cases hx:qkx n s (i+1)with
     | none=>rfl
     | some j=>
      have hj:=(qkc n).2 s (i+1) j hx;show(bif decide (((j:Nat):Int)-1<0)then _ else _)=_;rw[dF (by omega),c_f];obtain⟨j',rfl⟩:∃j',j=j'+1:=⟨j-1,by omega⟩
      rw[cloV_s,next j' deep (by omega) (by omega) hdp0 (by omega)]
   rw[iN h34,dF h34,c_f,e40,b_s,i_b];by_cases h40:byt s i=40
   . rw[iP h40,dT h40,c_t,qb0 (by omega),b_s,next i (deep+1) (by omega) (by omega) (by omega) (by omega)]
   rw[iN h40,dF h40,c_f,e41,b_s,i_b];by_cases h41:byt s i=41
   . rw[iP h41,dT h41,c_t,show V.int .i64 1=.int .i64 ((1:Nat):Int)from rfl,subC 1 (by omega) (by omega),b_s,eql0,b_s,i_b]
     by_cases h1:deep=1
     . rw[iP h1,dT (by omega),c_t]
       rw[cloV_s]
     . rw[iN h1,dF (by omega),c_f,next i (deep-1) (by omega) (by omega) (by omega) (by omega)]
   . rw[iN h41,dF h41,c_f,next i deep (by omega) (by omega) hdp0 (by omega)]
 . rw[iN hlt,dF hlt,i_b,c_f,hek]
   rfl
theorem quod_step (hK:RefL K) {n:Nat} (hC:ClodOk K n) (hQ:QuodOk K n) (hn0:n<1000000000):QuodOk K (n+1):=by
 intro d q S i s nk ek hs hi hd hq hf hek;obtain⟨d',rfl⟩:∃d',d=d'+1:=⟨d-1,by omega⟩
 obtain⟨q',rfl⟩:∃q',q=q'+1:=⟨q-1,by omega⟩
 unfold qkx;rw[L91_3_eq,qfm,b_s];dsimp only;rw[qdz,b_s];by_cases hlt:i<s.length
 . rw[iP hlt,dT hlt,i_b,c_t,qbl s .i64 i hlt,qb9 hlt,b_s]
   have next:∀(j:Nat),i<=j->j<=s.length->L91_3 (ev E0 K (d'+1)) qa3 nk ek q' (sv s) (.int .i64 ((j+1:Nat):Int)) S=some (.ret (.int .i64 (cloV (qkx n s (j+1)))),S):=fun j h1 h2=>
    hQ (d'+1) q' S (j+1) s nk ek hs (by omega) (by omega) (by omega) (by omega) hek
   have e92:=qd9 (byt s i) 92;have e34:=qd9 (byt s i) 34;rw[show((92:UInt8).toNat:Int)=92 from rfl]at e92;rw[show((34:UInt8).toNat:Int)=34 from rfl]at e34;rw[e92,b_s,i_b];by_cases h92:byt s i=92
   . rw[iP h92,dT h92,c_t,qb0 (by omega),b_s,qb0 (by omega),b_s,next (i+1) (by omega) (by omega)]
   rw[iN h92,dF h92,c_f,b_s,e34,b_s,i_b];by_cases h34:byt s i=34
   . rw[iP h34,dT h34,c_t]
     rw[cloV_s]
   rw[iN h34,dF h34,c_f,qdy hK d' s i [36,40] (by omega) (by decide) (by decide),callP_ret,i_b];cases h36:atD s i [36,40]with
   | true=>
    have hle:=qb1 h36 (by decide);simp only[List.length_cons,List.length_nil]at hle;rw[c_t,iP rfl,show V.int .i64 2=.int .i64 ((2:Nat):Int)from rfl,addC 2 (by omega),b_s,clod_call hK hC d' S (i+2) s hs (by omega) (by omega) (by unfold qa3; omega) (by omega),callP_ret,lt0,b_s,i_b];cases hx:qgj n s (i+2) 1 with
    | none=>rfl
    | some j=>
     have hj:=(qkc n).1 s (i+2) 1 j hx;show(bif decide (((j:Nat):Int)-1<0)then _ else _)=_;rw[dF (by omega),c_f];obtain⟨j',rfl⟩:∃j',j=j'+1:=⟨j-1,by omega⟩
     rw[cloV_s,qb0 (by omega),b_s,next j' (by omega) (by omega)]
   | false=>rw[c_f,iN (by simp),qb0 (by omega),b_s,next i (by omega) (by omega)]
 . rw[iN hlt,dF hlt,i_b,c_f,hek]
   rfl
theorem clod_zero:ClodOk K 0:=by
 intro d q S i deep s nk ek hs hi hdp0 hdp hd hq hf hek;obtain⟨q',rfl⟩:∃q',q=q'+1:=⟨q-1,by omega⟩
 rw[L76_4_eq,qfm,b_s];dsimp only;rw[qdz,b_s,dF (by omega),i_b,c_f,hek];rfl
theorem quod_zero:QuodOk K 0:=by
 intro d q S i s nk ek hs hi hd hq hf hek;obtain⟨q',rfl⟩:∃q',q=q'+1:=⟨q-1,by omega⟩
 rw[L91_3_eq,qfm,b_s];dsimp only;rw[qdz,b_s,dF (by omega),i_b,c_f,hek];rfl
theorem clod_quod (hK:RefL K):∀n,n<1000000000->ClodOk K n/\QuodOk K n
 | 0,_=>⟨clod_zero,quod_zero⟩
 | n+1,hn=>by
  obtain⟨h1,h2⟩:=clod_quod hK n (by omega);exact⟨clod_step hK h1 h2 (by omega),quod_step hK h1 h2 (by omega)⟩
theorem balanced_run (hK:RefL K) (n d:Nat) (i:Nat) (s:Bs) (hs:s.length<1000000000) (hi:i<=s.length+1) (hn:n<1000000000) (hd:n+3<=d) (hf:s.length+1<=n+i) (S:St):(ev E0 K (d+1)).f 76 [sv s,.int .i64 (i:Int)] S=some (.ret (.int .i64 (cloV (qgj n s i 1))),S):=
 clod_call hK (clod_quod hK n hn).1 d S i s hs hi hd (by unfold qa3; omega) hf
end
end Go.Proofs.YtafbipadnnmccaaDoor.W
namespace Go.Proofs.YtafbipadnnmccaaDoor.X
open Go.RowKit Go.Extern.Stop Go.Stop Go.Extern
theorem as_nil (t:Value) (w:World):Calls Tryd.prog 32 #[.nilIface,t] w fun e w'=>e=.returned (.bool false)/\w'=w:=by
 go_enter Tryd.func32,Tryd.ntmps32
 go_wp2
 go_ret
 exact⟨rfl,rfl⟩
theorem valueOf71 (t:Addr) (w:World):(ReflectliteValue.unpack (.iface 71 (.pointer (some t)))).run Tryd.prog w
 = .ok (.agg #[.pointer (some ⟨4,71,none⟩),.pointer (some ⟨w.heap.size,0,none⟩),.int .u64 150]) (w.alloc (.cells #[.pointer (some t)] 71)):=by kernel_rfl
theorem type71 (a : Addr) (w : World) : (ReflectliteValue.methodAny (ReflectliteValue.valueError "reflectlite.Value.Type" 0) (fun t _ _ _ => ReflectliteType.toType t) #[.agg #[.pointer (some ⟨4, 71, none⟩), .pointer (some a), .int .u64 150]]).run Tryd.prog w
 = .ok (.iface 136 (.agg #[.pointer (some ⟨4,71,none⟩)])) w:=by kernel_rfl
theorem methodKind (h : Value) (w : World) : (Go.method 301 136 (.agg #[h]) "Kind").run Tryd.prog w = .ok (118, h) w := by kernel_rfl
theorem kind71 (w:World):((ReflectliteType.abiMethod fun t=>(fun a:Nat=>Value.int IntKind.u8 (a:Int)) <$> Rtype.kind t) #[.pointer (some ⟨4,71,none⟩)]).run Tryd.prog w=.ok (.int .u8 22) w:=by kernel_rfl
theorem kind51 (w:World):((ReflectliteType.abiMethod fun t=>(fun a:Nat=>Value.int IntKind.u8 (a:Int)) <$> Rtype.kind t) #[.pointer (some ⟨4,51,none⟩)]).run Tryd.prog w=.ok (.int .u8 22) w:=by kernel_rfl
theorem rlm (z:Sem Value) (f:TypeId->Addr->Nat->Nat->Sem Value) (v:Value) :
 ReflectliteValue.method z f #[v]=(do match <- ReflectliteValue.parts v with|none=>z|some (t,a,fl)=>f t a fl (fl%32)):=rfl
theorem parts71 (a:Addr) (w:World):(ReflectliteValue.parts (.agg #[.pointer (some ⟨4,71,none⟩),.pointer (some a),.int .u64 150])).run Tryd.prog w=.ok (some (71,a,150)) w:=by kernel_rfl
theorem isNil71 (a p:Addr) (W:World) (ha:W.cell? a=some (.pointer (some p))) :
 (ReflectliteValue.method (ReflectliteValue.valueError "reflectlite.Value.IsNil" 0) ReflectliteValue.isNil #[.agg #[.pointer (some ⟨4, 71, none⟩), .pointer (some a), .int .u64 150]]).run Tryd.prog W = .ok (.bool false) W := by
 rw[rlm];simp only[Sem.run_bind,parts71,Result.andThen];simp[ReflectliteValue.isNil,loadVar,isAgg,underlying,Tryd.underlying71,ha,Result.andThen]
theorem methodElem (h : Value) (w : World) : (Go.method 301 136 (.agg #[h]) "Elem").run Tryd.prog w = .ok (131, .agg #[h]) w := by kernel_rfl
theorem qkw (h : Value) (w : World) : (Go.method 301 136 (.agg #[h]) "Implements").run Tryd.prog w = .ok (132, .agg #[h]) w := by kernel_rfl
theorem qj5 (h : Value) (w : World) : (Go.method 301 136 (.agg #[h]) "AssignableTo").run Tryd.prog w = .ok (129, .agg #[h]) w := by kernel_rfl
theorem elem71 (w:World):(ReflectliteType.method ReflectliteType.elem #[.agg #[.pointer (some ⟨4,71,none⟩)]]).run Tryd.prog w=.ok (.iface 136 (.agg #[.pointer (some ⟨4,51,none⟩)])) w:=by kernel_rfl
theorem implements51 (w : World) : (ReflectliteType.relation "Implements" ReflectliteType.implements_ #[.agg #[.pointer (some ⟨4, 51, none⟩)], .iface 136 (.agg #[.pointer (some ⟨4, 24, none⟩)])]).run Tryd.prog w = .ok (.bool true) w := by kernel_rfl
theorem typeOf51 (v:Value) (w:World):(ReflectliteType.typeOf #[.iface 51 v]).run Tryd.prog w=.ok (.iface 136 (.agg #[.pointer (some ⟨4,51,none⟩)])) w:=by kernel_rfl
theorem assignable51 (w : World) : (ReflectliteType.relation "AssignableTo" ReflectliteType.assignableTo #[.agg #[.pointer (some ⟨4, 51, none⟩)], .iface 136 (.agg #[.pointer (some ⟨4, 51, none⟩)])]).run Tryd.prog w = .ok (.bool true) w := by kernel_rfl
theorem valueOf51 (e:Addr) (w:World):(ReflectliteValue.unpack (.iface 51 (.pointer (some e)))).run Tryd.prog w
 = .ok (.agg #[.pointer (some ⟨4,51,none⟩),.pointer (some ⟨w.heap.size,0,none⟩),.int .u64 150]) (w.alloc (.cells #[.pointer (some e)] 51)):=by kernel_rfl
theorem elemOf71 (w:World):(Rtype.elem? 71).run Tryd.prog w=.ok (some 51) w:=by kernel_rfl
theorem mk51 (p:Addr) (w:World):(ReflectliteValue.mk 51 p ReflectliteValue.flagAddr).run Tryd.prog w=.ok (.agg #[.pointer (some ⟨4,51,none⟩),.pointer (some p),.int .u64 406]) w:=by kernel_rfl
theorem elemV71 (a p:Addr) (W:World) (ha:W.cell? a=some (.pointer (some p))) :
 (ReflectliteValue.method (ReflectliteValue.valueError "reflectlite.Value.Elem" 0) ReflectliteValue.elem #[.agg #[.pointer (some ⟨4, 71, none⟩), .pointer (some a), .int .u64 150]]).run Tryd.prog W
  = .ok (.agg #[.pointer (some ⟨4,51,none⟩),.pointer (some p),.int .u64 406]) W:=by
 rw[rlm];simp only[Sem.run_bind,parts71,Result.andThen];simp[ReflectliteValue.elem,loadVar,isAgg,underlying,Tryd.underlying71,ha,Result.andThen,elemOf71,mk51]
theorem rls (v x:Value):ReflectliteValue.set #[v,x]=(do
 let (some (dst,a,fl),some (src,b,_)):=(<- ReflectliteValue.parts v,<- ReflectliteValue.parts x)
  | unsupported (.noEntry "extern/(internal/reflectlite.Value).Set.zeroValue")
 if fl / ReflectliteValue.flagAddr % 2 == 0 then unsupported (.noEntry "extern/(internal/reflectlite.Value).Set.unaddressable")
 let val <- loadVar src b
 if <- Rtype.directlyAssignable dst src then storeVar dst a val
 else if <- Rtype.implements dst src then
  if(<- Rtype.kind src)==20 then
   match val with
   | .nilIface => unsupported (.noEntry "extern/reflectlite: a nil value of one interface type handed on as a value of another")
   | _=>storeVar dst a val
  else storeVar dst a (.iface src val)
 else panicString ("reflectlite.Set: value of type " ++ (<- Rtype.spelt src) ++ " is not assignable to type " ++ (<- Rtype.spelt dst))
 pure (.tuple #[])):=rfl
theorem parts51a (a:Addr) (w:World):(ReflectliteValue.parts (.agg #[.pointer (some ⟨4,51,none⟩),.pointer (some a),.int .u64 406])).run Tryd.prog w=.ok (some (51,a,406)) w:=by kernel_rfl
theorem parts51 (a:Addr) (w:World):(ReflectliteValue.parts (.agg #[.pointer (some ⟨4,51,none⟩),.pointer (some a),.int .u64 150])).run Tryd.prog w=.ok (some (51,a,150)) w:=by kernel_rfl
theorem direct51 (w:World):(Rtype.directlyAssignable 51 51).run Tryd.prog w=.ok true w:=by kernel_rfl
theorem set51 (ta b e:Addr) (old:Value) (W:World) (hb:W.cell? b=some (.pointer (some e))) (ht:W.cell? ta=some old) (hf:W.frozen? ta=false) :
 (ReflectliteValue.set #[.agg #[.pointer (some ⟨4,51,none⟩),.pointer (some ta),.int .u64 406],.agg #[.pointer (some ⟨4,51,none⟩),.pointer (some b),.int .u64 150]]).run Tryd.prog W
  = .ok (.tuple #[]) (W.setCell ta (.pointer (some e))):=by
 rw[rls];simp only[Sem.run_bind,parts51a,parts51,Result.andThen];simp[ReflectliteValue.flagAddr,loadVar,isAgg,underlying,Tryd.underlying51,hb,Result.andThen,direct51,storeVar,Value.cells,storeCells,Addr.add];rw[run_store Tryd.prog W ta _ _ (by rfl)];simp[ht,hf]
set_option maxHeartbeats 4000000 in
theorem as_hit (e t:Addr) (old:Value) (w:World) (hg:w.cell? ⟨0,0,none⟩=some (.iface 136 (.agg #[.pointer (some ⟨4,24,none⟩)]))) (ht0:w.cell? t=some old) (hf0:w.frozen? t=false) :
 Calls Tryd.prog 32 #[.iface 51 (.pointer (some e)),.iface 71 (.pointer (some t))] w fun ev w'=>ev=.returned (.bool true)/\w'=((((w.alloc (.cells #[.pointer (some t)] 71)).alloc (.cells #[.pointer (some ⟨4,71,none⟩),.pointer (some ⟨w.heap.size,0,none⟩),.int .u64 150] 103)).alloc (.cells #[.pointer (some ⟨4,71,none⟩),.pointer (some ⟨w.heap.size,0,none⟩),.int .u64 150] 103)).alloc (.cells #[.pointer (some e)] 51)).setCell t (.pointer (some e)):=by
 have h6 := @run_callFunc_extern Tryd.prog 52 _ (fun args => ReflectliteValue.unpack (args.getD 0 (.tuple #[]))) Tryd.func52 (by kernel_rfl) (by kernel_rfl) (by kernel_rfl) (by kernel_rfl);have h7 := @run_callFunc_extern Tryd.prog 53 _ (ReflectliteValue.methodAny (ReflectliteValue.valueError "reflectlite.Value.Type" 0) (fun t _ _ _ => ReflectliteType.toType t)) Tryd.func53 (by kernel_rfl) (by kernel_rfl) (by kernel_rfl) (by kernel_rfl);have h8 := @run_callFunc_extern Tryd.prog 54 _ (ReflectliteValue.method (ReflectliteValue.valueError "reflectlite.Value.IsNil" 0) ReflectliteValue.isNil) Tryd.func54 (by kernel_rfl) (by kernel_rfl) (by kernel_rfl) (by kernel_rfl);have h27 := @run_callFunc_extern Tryd.prog 118 _ (ReflectliteType.abiMethod fun t => do pure (.int .u8 (<- Rtype.kind t))) Tryd.func118 (by kernel_rfl) (by kernel_rfl) (by kernel_rfl) (by kernel_rfl);have h37 := @run_callFunc_extern Tryd.prog 131 _ (ReflectliteType.method ReflectliteType.elem) Tryd.func131 (by kernel_rfl) (by kernel_rfl) (by kernel_rfl) (by kernel_rfl);have h38 := @run_callFunc_extern Tryd.prog 132 _ (ReflectliteType.relation "Implements" ReflectliteType.implements_) Tryd.func132 (by kernel_rfl) (by kernel_rfl) (by kernel_rfl) (by kernel_rfl);have h10 := @run_callFunc_extern Tryd.prog 56 _ ReflectliteType.typeOf Tryd.func56 (by kernel_rfl) (by kernel_rfl) (by kernel_rfl) (by kernel_rfl)
 have h35 := @run_callFunc_extern Tryd.prog 129 _ (ReflectliteType.relation "AssignableTo" ReflectliteType.assignableTo) Tryd.func129 (by kernel_rfl) (by kernel_rfl) (by kernel_rfl) (by kernel_rfl);have h11 := @run_callFunc_extern Tryd.prog 79 _ (ReflectliteValue.method (ReflectliteValue.valueError "reflectlite.Value.Elem" 0) ReflectliteValue.elem) Tryd.func79 (by kernel_rfl) (by kernel_rfl) (by kernel_rfl) (by kernel_rfl);have h12 := @run_callFunc_extern Tryd.prog 80 _ ReflectliteValue.set Tryd.func80 (by kernel_rfl) (by kernel_rfl) (by kernel_rfl) (by kernel_rfl);have tO := typeOf51;have mA := qj5;have a25 := assignable51;have v25 := valueOf51;have f6 := valueOf71;have f7 := type71;have mK := methodKind;have mE := methodElem;have mI := qkw;have k27 := kind71;have k25 := kind51;have e27 := elem71;have i25 := implements51;have n8 := isNil71 ⟨w.heap.size, 0, none⟩ t ((w.alloc (.cells #[.pointer (some t)] 71)).alloc (.cells #[.pointer (some ⟨4, 71, none⟩), .pointer (some ⟨w.heap.size, 0, none⟩), .int .u64 150] 103)) (by simp)
 have hlt:0<w.heap.size:=by
  rcases Nat.eq_zero_or_pos w.heap.size with h0|h
  . simp[World.cell?,h0]at hg
  . exact h
 have hg2:((w.alloc (.cells #[.pointer (some t)] 71)).alloc (.cells #[.pointer (some ⟨4,71,none⟩),.pointer (some ⟨w.heap.size,0,none⟩),.int .u64 150] 103)).cell? ⟨0,0,none⟩=some (.iface 136 (.agg #[.pointer (some ⟨4,24,none⟩)])):=by
  rw[World.cell?_alloc_lt _ _ ⟨0,0,none⟩ (by simp),World.cell?_alloc_lt _ _ ⟨0,0,none⟩ hlt]; exact hg
 have htl:t.block<w.heap.size:=by
  rcases Nat.lt_or_ge t.block w.heap.size with h|h
  . exact h
  . simp[World.cell?,Array.getElem?_eq_none h]at ht0
 have el:=elemV71 ⟨w.heap.size,0,none⟩ t (((w.alloc (.cells #[.pointer (some t)] 71)).alloc (.cells #[.pointer (some ⟨4,71,none⟩),.pointer (some ⟨w.heap.size,0,none⟩),.int .u64 150] 103)).alloc (.cells #[.pointer (some ⟨4,71,none⟩),.pointer (some ⟨w.heap.size,0,none⟩),.int .u64 150] 103)) (by rw[World.cell?_alloc_lt _ _ ⟨w.heap.size,0,none⟩ (by simp; omega)]; simp)
 have st:=set51 t ⟨w.heap.size+1+1+1,0,none⟩ e old ((((w.alloc (.cells #[.pointer (some t)] 71)).alloc (.cells #[.pointer (some ⟨4,71,none⟩),.pointer (some ⟨w.heap.size,0,none⟩),.int .u64 150] 103)).alloc (.cells #[.pointer (some ⟨4,71,none⟩),.pointer (some ⟨w.heap.size,0,none⟩),.int .u64 150] 103)).alloc (.cells #[.pointer (some e)] 51))
  (by rw[World.cell?_alloc_at _ _ _ _ (by simp)]; rfl)
  (by rw[World.cell?_alloc_lt _ _ t (by simp; omega),World.cell?_alloc_lt _ _ t (by simp; omega),World.cell?_alloc_lt _ _ t (by simp; omega),World.cell?_alloc_lt _ _ t htl]; exact ht0)
  (by rw[World.frozen?_alloc_old _ _ t (by simp; omega),World.frozen?_alloc_old _ _ t (by simp; omega),World.frozen?_alloc_old _ _ t (by simp; omega),World.frozen?_alloc_old _ _ t (Nat.ne_of_lt htl)]; exact hf0)
 go_enter Tryd.func32,Tryd.ntmps32
 go_wp2
 refine wp_loop_rounds 1 ?_;rw[rounds_succ]
 go_wp2
 go_ret
 exact⟨rfl,rfl⟩
theorem isTypeOf (v:Value) (w:World):(Extern.ReflectliteType.typeOf #[.iface 27 v]).run Tryd.prog w=.ok (.iface 136 (.agg #[.pointer (some ⟨4,27,none⟩)])) w:=by kernel_rfl
theorem comparable27 (w:World):(callFunc 130 #[.agg #[.pointer (some ⟨4,27,none⟩)]]).run Tryd.prog w=.ok (.value (.bool true)) w:=by
 rw [@run_callFunc_extern Tryd.prog 130 _ (ReflectliteType.method fun t => do Rtype.noPackHeld "Comparable" t; pure (.bool (<- typeInfo t).comparable)) Tryd.func130 (by kernel_rfl) (by kernel_rfl) (by kernel_rfl) (by kernel_rfl)];have h : (ReflectliteType.method (fun t => do Rtype.noPackHeld "Comparable" t; pure (.bool (<- typeInfo t).comparable)) #[.agg #[.pointer (some ⟨4, 27, none⟩)]]).run Tryd.prog w = .ok (.bool true) w := by kernel_rfl
 rw[h];rfl
theorem qkv (v : Value) (w : World) : (Go.method 301 136 v "Comparable").run Tryd.prog w = .ok (130, v) w := by kernel_rfl
theorem noIs51 (v:Value) (xT:TypeId) (w:World):(Instr.typeAssert (.iface 51 v) xT 148 true).run Tryd.prog w=.ok (.tuple #[.nilIface,.bool false]) w:=run_typeAssert_lacksB Tryd.underlying148 (by kernel_rfl) (by kernel_rfl) v xT w
theorem hasUnwrap51 (v:Value) (xT:TypeId) (w:World):(Instr.typeAssert (.iface 51 v) xT 143 true).run Tryd.prog w=.ok (.tuple #[.iface 51 v,.bool true]) w:=run_typeAssert_hasB Tryd.underlying143 (by kernel_rfl) v xT w
theorem methodUnwrap (v : Value) (w : World) : (Go.method 301 51 v "Unwrap").run Tryd.prog w = .ok (123, v) w := by kernel_rfl
theorem info27:(Tryd.prog.info? 27).map (·.comparable)=some true:=by kernel_rfl
theorem eql27 (c:Int) (w:World):(binOp .eql 24 (.iface 27 (.int .i64 c)) (.iface 27 (.int .i64 c))).run Tryd.prog w=.ok (.bool true) w:=by
 obtain⟨i,hi,hcmp⟩:=Option.map_eq_some_iff.1 info27
 have h:∀d:Nat,(Op.equalIn (d+2) 24 (.iface 27 (.int .i64 c)) (.iface 27 (.int .i64 c))).run Tryd.prog w=.ok true w:=fun d=>by
  simp[Op.equalIn,run_underlying Tryd.underlying24,run_underlying Tryd.underlying27,typeInfo,hi,hcmp]
 simp only[binOp];simp[Op.equal,Op.maxDepth,h 9998]
theorem is_hit (b:Addr) (c:Int) (w:World) (hb:w.cell? b=some (.int .i64 c)) :
 Calls Tryd.prog 33 #[.iface 51 (.pointer (some b)),.iface 27 (.int .i64 c)] w fun e w'=>e=.returned (.bool true)/\w'=w:=by
 have h8:=@run_callFunc_extern Tryd.prog 56 _ Extern.ReflectliteType.typeOf Tryd.func56 (by kernel_rfl) (by kernel_rfl) (by kernel_rfl) (by kernel_rfl);have tT:=isTypeOf;have cTT:=comparable27;have mR:=qkv;have nW:=noIs51;have uW:=hasUnwrap51;have mU:=methodUnwrap;have hty:=run_eql_iface_types (P:=Tryd.prog) 51 27 (.pointer (some b)) (.int .i64 c) Tryd.underlying24 (by decide) w;have heq:=eql27 c w
 go_enter Tryd.func33,Tryd.ntmps33
 go_wp2
 refine wp_loop_rounds 2 ?_;rw[rounds_succ]
 go_wp2
 rw[rounds_succ]
 go_wp2
 go_ret
 exact⟨rfl,rfl⟩
end Go.Proofs.YtafbipadnnmccaaDoor.X
namespace Go.Proofs.YtafbipadnnmccaaDoor.W
open Go.Proofs.YtafbipadnnmccaaDoor.Ev Go.RowKit Go.Proofs
theorem E1_ok:EnvOk Tryd.prog (envOf Tryd.prog [7,8,28,29,38,39,43,48,49,52,56,57,80,81,88,89,114,156,157,158,159,163,178,179,185,186,187,188,189,190] [(81,4),(82,105),(84,3),(97,1)] []):=envOf_ok (by kernel_rfl) (by kernel_rfl) (by kernel_rfl) (fun p hp=>by
 simp only[List.mem_cons,List.not_mem_nil,or_false]at hp;rcases hp with rfl|rfl|rfl|rfl
 . exact⟨fun h=>absurd h (by decide),fun h=>absurd h (by decide),fun h=>absurd h (by decide),fun _ args w=>by kernel_rfl,fun h=>absurd h (by decide)⟩
 . exact⟨fun h=>absurd h (by decide),fun h=>absurd h (by decide),fun h=>absurd h (by decide),fun h=>absurd h (by decide),fun _=>⟨Tryd.f82.params,Tryd.f82.resultTypes,Tryd.f82.resultTypes.getD 0 0,by kernel_rfl,by kernel_rfl,fun args w=>by kernel_rfl⟩⟩
 . exact⟨fun h=>absurd h (by decide),fun h=>absurd h (by decide),fun _ args w=>by kernel_rfl,fun h=>absurd h (by decide),fun h=>absurd h (by decide)⟩
 . exact⟨fun _ args w=>by kernel_rfl,fun h=>absurd h (by decide),fun h=>absurd h (by decide),fun h=>absurd h (by decide),fun h=>absurd h (by decide)⟩
 ) (by kernel_rfl) (by kernel_rfl) (by kernel_rfl)
theorem envOk_glob {P:Program} {E:Env} (h:EnvOk P E) (g:Tr Nat):EnvOk P {E with glob:=g}:=⟨h.tys,h.fns,h.call,h.ext,h.noExt,h.plain,h.mixed,h.lie,h.depth⟩
theorem E0_ok:EnvOk Tryd.prog E0:=envOk_glob E1_ok _
theorem globs:∀g b,E0.glob.get g=some b->(g=0/\b=0)\/(g=4/\b=1):=fun g b h=>by
 have h':(kinds [((0:Nat),(0:Nat)),(4,1)]).get g=some b:=h;have:=qj4 h';simp only[List.mem_cons,List.not_mem_nil,or_false,pM]at this;exact this
theorem run_put (t e:Addr) (old:Value) (W:World) (ht:W.cell? t=some old) (hf:W.frozen? t=false):(storeCells t [.pointer (some e)] 0).run Tryd.prog W=.ok () (W.setCell t (.pointer (some e))):=by
 simp[storeCells,Addr.add];rw[run_store Tryd.prog W t _ _ (by rfl)];simp[ht,hf]
theorem asOk:AsOk Tryd.prog 32 51 71 136 24 4 0 where
 nil:=X.as_nil
 hit e t old w hg ht hf:=(X.as_hit e t old w hg ht hf).mono fun ev w' h=>by
  obtain⟨h1,h2⟩:=h
  have htl:t.block<w.heap.size:=by
   rcases Nat.lt_or_ge t.block w.heap.size with h|h
   . exact h
   . simp[World.cell?,Array.getElem?_eq_none h]at ht
  refine⟨h1,_,?_,h2▸run_put t e old _ ?_ ?_⟩
  . exact((((Below.refl _ w).alloc (lR _) _).alloc (by simp) _).alloc (by simp; omega) _).alloc (by simp; omega) _
  . rw[World.cell?_alloc_lt _ _ t (by simp; omega),World.cell?_alloc_lt _ _ t (by simp; omega),World.cell?_alloc_lt _ _ t (by simp; omega),World.cell?_alloc_lt _ _ t htl]; exact ht
  . rw[World.frozen?_alloc_old _ _ t (by simp; omega),World.frozen?_alloc_old _ _ t (by simp; omega),World.frozen?_alloc_old _ _ t (by simp; omega),World.frozen?_alloc_old _ _ t (Nat.ne_of_lt htl)]; exact hf
def kfIs:KF:=⟨fun args s=>match args with
 | [.iface t1 (.ptr b o),.iface t2 (.int .i64 c)]=>bif Nat.beq t1 51&&Nat.beq t2 27 then(ld s b o).bind fun q=>bif (match q.1 with|.int .i64 c'=>decide (c'=c)|_=>false)then some (.ret (.bool true),q.2)else none else none
 | _=>none⟩
theorem is_well:KnWell Tryd.prog E0 33 kfIs:=by
 refine⟨fun args=>?_,fun w0 ρ s w args cargs v s' hR hv hg=>?_⟩
 . unfold kfIs
   dsimp only;split
   . rename_i t1 b o t2 c
     have h:LocP fun s=>(ld s b o).bind fun q=>bif (match q.1 with|.int .i64 c'=>decide (c'=c)|_=>false)then some (En.ret (.bool true),q.2)else none:=
      Loc.bind (loc_ld b o) fun q=>Loc.cond (c:=match q with|.int .i64 c'=>decide (c'=c)|_=>false) (LocP.ret _) Loc.none
     exact Loc.cond h Loc.none
   . exact Loc.none
 . unfold kfIs at hg
   dsimp only at hg;split at hg
   . rename_i t1 b o t2 c
     cases hc:(Nat.beq t1 51&&Nat.beq t2 27)with
     | false=>rw[hc]at hg; cases hg
     | true=>
     rw[hc]at hg;simp only[cT,bA,Ev.beq_true,oI]at hg hc;obtain⟨rfl,rfl⟩:=hc;obtain⟨⟨v0,s1⟩,hld,hg⟩:=hg;dsimp only at hg;cases hh:(match v0 with|.int .i64 c'=>decide (c'=c)|_=>false)with
     | false=>rw[hh]at hg; cases hg
     | true=>
     rw[hh]at hg;simp only[cT,oS,pM]at hg;obtain⟨rfl,rfl⟩:=hg;obtain⟨l'⟩:=cargs;cases hv with
     | cons hs ht=>
     cases ht with
     | cons hi hn=>
     cases hn;cases hs with
     | iface hs=>
     cases hi with
     | iface hi=>
     cases hs with
     | @ptr _ _ cb sh sz hρ=>
     cases hi;obtain⟨cv,hcell,hcv,_,hsame⟩:=ld_sim hR hld hρ;split at hh
     . rename_i c'
       have:c'=c:=of_decide_eq_true hh;subst this;cases hcv;refine(X.is_hit ⟨cb,sh+o,none⟩ c' w hcell).mono fun e w' hw=>?_;obtain⟨rfl,rfl⟩:=hw;exact⟨ρ,_,rfl,Rho.le_refl ρ,.bool true,hR.congr hsame.1 hsame.2⟩
     . cases hh
   . cases hg
def KA:=knAdd (fun _=>none) 32 (knAs 51 71 136 24 0 1)
def KX:=knAdd KA 33 kfIs
theorem okX:KnOk Tryd.prog E0 KX:=(knOk_nil.add (as_well (by kernel_rfl) (by kernel_rfl) asOk)).add is_well
end Go.Proofs.YtafbipadnnmccaaDoor.W
end
