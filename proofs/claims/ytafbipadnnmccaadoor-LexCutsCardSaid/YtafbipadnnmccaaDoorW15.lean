/-
  WHAT THE FUNCTIONS COME TO: each is read by the evaluator,printed,and told as a function of data,part 15 of 17 (no condition).
-/
import Derived.Test.YtafbipadnnmccaaDoorW14
namespace Go.Proofs.YtafbipadnnmccaaDoor.W
open Go.Proofs.YtafbipadnnmccaaDoor.Ev Go.RowKit
section
variable {K:FuncId->Option KF} {S U T:St} {i j N P:Nat} {s:Bs} {vo:V} {X Y:Tr V} {n w deep d q:Nat} {out:List Part} {text:Bs} {nk:Ac->St->Rs} {ek:Nat->Ac->St->Rs}
theorem qmg (g:Grew (fun x=>S.next<=x) S U):Grew (fun _=>False) S U:=⟨g.next,g.on,fun x hx _=>g.keep x hx (by omega)⟩
set_option maxRecDepth 100000 in
theorem loopd_step (hK:RefL K) (hPn:qlo K n) (hPm:∀m,m+1=n->qlo K m) (hL:qex K n):qex K (n+1):=by
 intro d q S N i s w deep out text vo nk ek h hs hi hlen hdp hd hn hn2 hq;obtain⟨d',rfl⟩:∃d',d=d'+2:=⟨d-2,by omega⟩
 obtain⟨q',rfl⟩:∃q',q=q'+1:=⟨q-1,by omega⟩
 have hfl:=qjt w out text;have hlt0:=h.lt
 have atend:∀(P:Nat),S.next<=P->(∃S',S'=(nwP 49 6 zP S).2)->PdR (.ok (qi4 w out text,i)) S N (qfr (ev E0 K (d'+2)) qa3 nk ek q' (sv s) (.int .i64 (i:Int)) (.int .i64 (w:Int)) (.int .i64 (deep:Int)) (.ptr N 0) vo (.bool (inD w)) (sv text) (.bool (!text.isEmpty)) (.bool true) (.ptr P 0) (.int .i64 0) (nwP 49 6 zP S).2):=fun P _ _=>by
  obtain⟨k1,k2,k3⟩:=qar h.on 49 6 zP;have h1:=h.move (k2.mono fun x _ h=>h.elim);obtain⟨U3,vo',f1,f2,f3,f4⟩:=qi5 (w:=w) (n:=q') (ev E0 K (d'+2)) qa3 nk ek h1 (by omega) text (sv s) (.int .i64 (i:Int)) (.int .i64 (w:Int)) (.int .i64 (deep:Int)) (.bool true) (.ptr P 0) (.int .i64 0);rw[f1];exact PdR.after ((k2.mono fun x _ h=>h.elim).trans (h1.ge f3)) (tail_end _ _ _ _ f2 _ _ _ _ _ _ _ _)
 rw[L29_step,qfm,b_s];dsimp only;rw[geqN,b_s,zP_eq,fl0];unfold qam;by_cases hlt:i<s.length
 . rw[dF (show ¬s.length<=i by omega)]
   have hx:ixS (sv s) (.int .i64 (i:Int))=some (.int .u8 ((byt s i).toNat:Int)):=by rw[qbl s .i64 i hlt,qb9 hlt]
   simp only[g_f,b_s,c_t,nF];rw[hx,b_s,stops_run hK d' w (byt s i),callP_ret,p_b,c_f,b_s];cases he:qi1 w (byt s i)with
   | true=>
    rw[iN (by rintro ⟨_,h⟩; cases h)];unfold qm1;simp only[g_t,g_f,qf1,b_s,c_t,c_f,p_b,callP_ret,qjj,i_b,Bool.not_true,nF];rw[qan];exact atend S.next (lR _) ⟨_,rfl⟩
   | false=>
    rw[iP ⟨hlt,rfl⟩,casc29 (sv s) (.int .i64 (i:Int)) (byt s i) w (inD w) _ hx,qjj,b_s,i_b];by_cases h92n:atD s i [92,10]=true
    . -- a stroke at a line's end
      have hb:=at_byt h92n;have hle:=qb1 h92n (by decide);simp only[List.length_cons,List.length_nil]at hle;rw[iP h92n,hb,show(!(decide ((92:UInt8)=36)||(decide ((92:UInt8)=92)||(decide ((92:UInt8)=96)||((!inD w&&(decide ((92:UInt8)=39)||decide ((92:UInt8)=34)))||(decide (w=4)&&decide ((92:UInt8)=34)))))))=false from rfl,c_f,qjj,b_s];simp only[g_t,b_s,c_t,nF];rw[qdy hK (d'+1) s i [92,10] (by omega) (by decide) (by decide),callP_ret,h92n,p_b,c_t,b_s,i_b,c_t,show V.int .i64 2=.int .i64 ((2:Nat):Int)from rfl,addC 2 (by omega),b_s];exact hL (d'+2) q' S N (i+2) s w deep out text vo nk ek h hs (by omega) (by omega) hdp (by omega) (by omega) (by omega) (by omega)
    . have h92n:=Bool.eq_false_iff.2 h92n
      rw[h92n,iN (by simp)]
      have spec:∀(o:Except Flt (List Part×Nat)),(byt s i≠92\/inD w=false)->byt s i≠36->
       (∀U vo',PD U N (qi4 w out text) vo'->PdR o U N (qdt (ev E0 K (d'+2)) qa3 nk ek q' (sv s) (.int .i64 (i:Int)) (.int .i64 (w:Int)) (.int .i64 (deep:Int)) (.ptr N 0) vo' (.bool (inD w)) (sv []) (.bool false) (.bool false) (.ptr S.next 0) (.int .i64 0) U))->
       PdR o S N (qfr (ev E0 K (d'+2)) qa3 nk ek q' (sv s) (.int .i64 (i:Int)) (.int .i64 (w:Int)) (.int .i64 (deep:Int)) (.ptr N 0) vo (.bool (inD w)) (sv text) (.bool (!text.isEmpty)) (.bool false) (.ptr S.next 0) (.int .i64 0) (nwP 49 6 zP S).2):=fun o _ _ ht=>by
       obtain⟨k1,k2,k3⟩:=qar h.on 49 6 zP;have h1:=h.move (k2.mono fun x _ h=>h.elim);obtain⟨U3,vo',f1,f2,f3,f4⟩:=qi5 (w:=w) (n:=q') (ev E0 K (d'+2)) qa3 nk ek h1 (by omega) text (sv s) (.int .i64 (i:Int)) (.int .i64 (w:Int)) (.int .i64 (deep:Int)) (.bool false) (.ptr S.next 0) (.int .i64 0);rw[f1];exact PdR.after ((k2.mono fun x _ h=>h.elim).trans (h1.ge f3)) (ht U3 vo' f2)
      have e92:=u8c (byt s i) 92 (by decide);rw[show((92:Nat):Int)=92 from rfl,show UInt8.ofNat 92=92 from rfl]at e92;have e36:=u8c (byt s i) 36 (by decide);rw[show((36:Nat):Int)=36 from rfl,show UInt8.ofNat 36=36 from rfl]at e36;by_cases h92:byt s i=92
      . rw[iP h92,show(!(decide (byt s i=36)||(decide (byt s i=92)||(decide (byt s i=96)||((!inD w&&(decide (byt s i=39)||decide (byt s i=34)))||(decide (w=4)&&decide (byt s i=34)))))))=false by rw[h92]; rfl,c_f,qjj,b_s]
        simp only[g_t,b_s,c_t,nF];rw[qdy hK (d'+1) s i [92,10] (by omega) (by decide) (by decide),callP_ret,h92n,p_b,c_t,b_s,i_b,c_f,hx,b_s,e92,dT h92,b_s,p_b,c_t,b_s];simp only[g_t,b_s,c_t];rw[p_b,c_t,b_s,i_b];rcases Bool.eq_false_or_eq_true (inD w)with hw|hw
        . have e:∀(A B:Rs),(bif inD w then A else B)=A:=fun A B=>by rw[hw]; rfl
          rw[e,iP hw,qb0 (by omega),b_s,qfm,b_s];dsimp only;rw[geqN,b_s,i_b];by_cases hle:s.length<=i+1
          . rw[dT hle,c_t,iP hle]
            exact wrP29 hK (d'+1) h i
          . have hx2:ixS (sv s) (.int .i64 ((i+1:Nat):Int))=some (.int .u8 ((byt s (i+1)).toNat:Int)):=by rw[qbl s .i64 (i+1) (by omega),qb9 (by omega)]
            rw[dF hle,c_f,iN hle,b_s,hx2,b_s,casc29b,qjj,b_s,i_b,<- esc_has]
            have hsl:qah E0 9 (sv s) (some (.int .i64 ((i+1:Nat):Int))) (some (.int .i64 ((i+2:Nat):Int))) none S=some (sv [byt s (i+1)],S):=by
             rw[qap qij s (qav .i64 .i64 (by omega) (by omega)) (by omega)];rw[show(s.drop (i+1)).take (i+2-(i+1))=[byt s (i+1)]from take1 (by omega)]
            have a2:=addC 2 (i:=i) (by omega);rw[show(V.int .i64 ((2:Nat):Int))=.int .i64 2 from rfl]at a2;cases hcn:(([36,96,92]:Bs).contains (byt s (i+1))||(byt s (i+1)==34&&w != 2))with
            | true=>
             rw[Bool.not_true,c_f,b_s,a2,b_s,hsl,b_s];dsimp only;rw[qbh _ _ (by simp; omega),b_s,b_s,iP rfl,List.append_nil];have hgo:=hL (d'+2) q' S N (i+2) s w deep out (text++[byt s (i+1)]) vo nk ek h hs (by omega) (by simp; omega) hdp (by omega) (by omega) (by omega) (by omega)
             rwa [app_ne]at hgo
            | false=>
             rw[nF,c_t,qbh _ _ (by simp; omega),b_s,b_s,a2,b_s,hsl,b_s];dsimp only;rw[qbh _ _ (by simp; omega),b_s,b_s,iN (by simp)];have hgo:=hL (d'+2) q' S N (i+2) s w deep out (text++[92]++[byt s (i+1)]) vo nk ek h hs (by omega) (by simp; omega) hdp (by omega) (by omega) (by omega) (by omega)
             rwa [app_ne]at hgo
        . have e:∀(A B:Rs),(bif inD w then A else B)=B:=fun A B=>by rw[hw]; rfl
          rw[e,iN (show ¬(inD w=true) by rw[hw]; simp),e36,show decide (byt s i=36)=false by rw[h92]; rfl,b_s,p_b,c_t,b_s,i_b,c_f];have hsp:=spec (if s.length<=i+1 then .error (19,i)else qam n s w deep (i+2) (qi4 w out text++[.mk 1 [byt s (i+1)] [] false []]) []) (.inr hw) (by rw[h92]; decide) fun U vo' hU=>tail_c92 hK hL hU hs hlt h92 (by omega) hdp (by omega) (by omega) (by omega) (by omega) _ _;exact hsp
      . rw[iN h92]
        by_cases h36:byt s i=36
        . rw[iP h36,show(!(decide (byt s i=36)||(decide (byt s i=92)||(decide (byt s i=96)||((!inD w&&(decide (byt s i=39)||decide (byt s i=34)))||(decide (w=4)&&decide (byt s i=34)))))))=false by rw[h36]; rfl,c_f,qjj,b_s]
          simp only[g_t,b_s,c_t,nF];rw[qdy hK (d'+1) s i [92,10] (by omega) (by decide) (by decide),callP_ret,h92n,p_b,c_t,b_s,i_b,c_f,hx,b_s,e92,dF h92,b_s,p_b,c_t,b_s];simp only[g_t,b_s,c_f];rw[p_b,c_f,b_s,i_b,c_f,e36,dT h36,b_s,p_b,c_t,b_s,i_b,c_t];exact loopd_dollar hK hPm hL h hs hlt h36 hlen hdp hd (by omega) (by omega) (by omega)
        . rw[iN h36]
          by_cases hsp:(byt s i=96\/(inD w=false/\(byt s i=39\/byt s i=34))\/(w=4/\byt s i=34))
          . have hd1:(!(decide (byt s i=36)||(decide (byt s i=92)||(decide (byt s i=96)||((!inD w&&(decide (byt s i=39)||decide (byt s i=34)))||(decide (w=4)&&decide (byt s i=34)))))))=false:=by
             rcases hsp with h|⟨h1,h|h⟩|⟨h1,h⟩
             . simp[h]
             . simp[h,h1]
             . simp[h,h1]
             . simp[h,h1]
            rw[hd1,c_f,qjj,b_s];simp only[g_t,b_s,c_t,nF];rw[qdy hK (d'+1) s i [92,10] (by omega) (by decide) (by decide),callP_ret,h92n,p_b,c_t,b_s,i_b,c_f,hx,b_s,e92,dF h92,b_s,p_b,c_t,b_s];simp only[g_t,b_s,c_f];rw[p_b,c_f,b_s,i_b,c_f,e36,dF h36,b_s,p_b,c_t,b_s,i_b,c_f];by_cases hbad:byt s i=96\/(byt s i=34/\w=4)
            . rw[iP (by rcases hbad with h|⟨h,h1⟩<;>first|simp[h,h1]|simp[h])]
              refine spec _ (.inl h92) h36 fun U vo' hU=>tail_bad hK hU hlt h36 h92 (by rcases hbad with h|⟨h,_⟩<;>rw[h]<;>decide) (fun h34=>?_) (by omega) _ _;rcases hbad with h|⟨_,h1⟩
              . rw[h]at h34; exact absurd h34 (by decide)
              . exact h1
            . have hb96:byt s i≠96:=fun h=>hbad (.inl h)
              have hb34:byt s i=34->w≠4:=fun h h1=>hbad (.inr ⟨h,h1⟩)
              rw[iN (by
               intro h;simp only[Bool.or_eq_true,bA,beq_iff_eq,decide_eq_true_eq]at h
               exact hbad h)]
              have hin:inD w=false:=by
               rcases hsp with h|⟨h1,_⟩|⟨h1,h⟩
               . exact absurd h hb96
               . exact h1
               . exact absurd h1 (hb34 h)
              by_cases h39:byt s i=39
              . rw[iP (by rw[hin]; simp[h39])]
                exact spec _ (.inl h92) h36 fun U vo' hU=>tail_c39 hK hL hU hs hlt h39 (by omega) hdp (by omega) (by omega) (by omega) (by omega) _ _
              . have h34:byt s i=34:=by
                 rcases hsp with h|⟨_,h|h⟩|⟨_,h⟩
                 . exact absurd h hb96
                 . exact absurd h h39
                 . exact h
                 . exact h
                rw[iN (by simp[h39]),iP (by rw[hin]; simp[h34])];exact spec _ (.inl h92) h36 fun U vo' hU=>tail_c34 hK hPn hL hU hs hlt h34 (hb34 h34) (by omega) hdp (by omega) (by omega) (by omega) (by omega) _ _
          . -- a plain byte
            have n96:byt s i≠96:=fun h=>hsp (.inl h);have n1:¬(inD w=false/\(byt s i=39\/byt s i=34)):=fun h=>hsp (.inr (.inl h));have n2:¬(w=4/\byt s i=34):=fun h=>hsp (.inr (.inr h))
            have hd1:(!(decide (byt s i=36)||(decide (byt s i=92)||(decide (byt s i=96)||((!inD w&&(decide (byt s i=39)||decide (byt s i=34)))||(decide (w=4)&&decide (byt s i=34)))))))=true:=by
             rw[dF h36,dF h92,dF n96];simp only[Bool.false_or,Bool.not_eq_true',Bool.or_eq_false_iff,Bool.and_eq_false_imp,decide_eq_false_iff_not,Bool.not_eq_true',decide_eq_true_eq];exact⟨fun hw=>⟨fun h=>n1 ⟨hw,.inl h⟩,fun h=>n1 ⟨hw,.inr h⟩⟩,fun hw h=>n2 ⟨hw,h⟩⟩
            rw[hd1,c_t,iN (by
             intro h;simp only[Bool.or_eq_true,bA,beq_iff_eq,decide_eq_true_eq]at h;rcases h with h|⟨h,h1⟩
             . exact n96 h
             . exact n2 ⟨h1,h⟩),iN (by
             intro h;simp only[bA,decide_eq_true_eq,Bool.not_eq_true']at h
             exact n1 ⟨h.2,.inl h.1⟩),iN (by
             intro h;simp only[bA,decide_eq_true_eq,Bool.not_eq_true']at h
             exact n1 ⟨h.2,.inr h.1⟩)]
            rw[qb0 (by omega),b_s,qap qij s (qav .i64 .i64 (by omega) (by omega)) (by omega),b_s];dsimp only;rw[take1 hlt,qbh _ _ (by simp; omega),b_s,b_s];have hgo:=hL (d'+2) q' S N (i+1) s w deep out (text++[byt s i]) vo nk ek h hs (by omega) (by simp; omega) hdp (by omega) (by omega) (by omega) (by omega)
            rwa [app_ne]at hgo
 . rw[dT (show s.length<=i by omega),iN (fun h=>hlt h.1)]
   unfold qm1;simp only[g_t,g_f,qf1,b_s,c_t,c_f,p_b,callP_ret,qjj,i_b,Bool.not_true,nF];rw[qan];exact atend S.next (lR _) ⟨_,rfl⟩
theorem loopd_zero:qex K 0:=by
 intro d q S N i s w deep out text vo nk ek h hs hi hlen hdp hd hn;omega
theorem parts_of29 (hK:RefL K) (hL:qex K n):qlo K n:=by
 intro d S i s w deep ho hs hi hdp hd hn hn2;obtain⟨d',rfl⟩:∃d',d=d'+1:=⟨d-1,by omega⟩
 obtain⟨a1,a2,a3⟩:=qar ho 29 2 (qb6 0 0);have hF:∀r,F29 (ev E0 K d') qa3 (sv s) (.int .i64 (i:Int)) (.int .i64 (w:Int)) (.int .i64 (deep:Int)) S=some r->(ev E0 K (d'+1)).f 29 [sv s,.int .i64 (i:Int),.int .i64 (w:Int),.int .i64 (deep:Int)] S=some r:=fun r e=>rv29 hK e;have hp:PD (nwP 29 2 (qb6 0 0) S).2 S.next [] .nilslice:=⟨a2.on.trans ho,by omega,⟨_,a1⟩,⟨[],qhx _ _,prAt_nil⟩,fun r hr=>by cases hr⟩
 have hgo:=hL d' qa3 _ S.next i s w deep [] [] .nilslice (qbt E0 (ev E0 K d') Tryd.f29) (exB 0 (qbt E0 (ev E0 K d') Tryd.f29) qas) hp hs hi (by simp) hdp (by omega) hn hn2 (by unfold qa3; omega)
 have hE:F29 (ev E0 K d') qa3 (sv s) (.int .i64 (i:Int)) (.int .i64 (w:Int)) (.int .i64 (deep:Int)) S=_:=F29_eq ..;rw[b_s,qan,fl0,inw]at hE;have g0:Grew (fun x=>S.next<=x) S (nwP 29 2 (qb6 0 0) S).2:=a2.mono fun x _ h=>h.elim;cases hq:qam n s w deep i [] []with
 | ok r=>
  rw[hq]at hgo;obtain⟨U,v,h1,h2,h3⟩:=hgo;exact⟨U,v,hF _ (hE.trans h1),h2,qmg (g0.trans h3)⟩
 | error e=>
  rw[hq]at hgo;obtain⟨U,v,h1,h2,h3⟩:=hgo;exact⟨U,v,hF _ (hE.trans h1),h2,qmg (g0.trans h3)⟩
theorem loopd_all (hK:RefL K):∀n,qex K n/\qlo K n/\∀m,m+1=n->qlo K m
 | 0=>⟨loopd_zero,parts_of29 hK loopd_zero,fun m h=>by omega⟩
 | n+1=>by
  obtain⟨h1,h2,h3⟩:=loopd_all hK n;have h4:=loopd_step hK h2 h3 h1
  exact⟨h4,parts_of29 hK h4,fun m h=>by
   cases h
   exact h2⟩
theorem partsd_run (hK:RefL K) (n:Nat):qlo K n:=(loopd_all hK n).2.1
end
end Go.Proofs.YtafbipadnnmccaaDoor.W
namespace Go.Proofs.YtafbipadnnmccaaDoor.W
open Go.Proofs.YtafbipadnnmccaaDoor.Ev
theorem qi0 (p u:Bs) (i:Nat):(p++u).drop (p.length+i)=u.drop i:=by
 rw[List.drop_append,List.drop_eq_nil_of_le (by omega),List.nil_append]
 congr 1
 omega
theorem byt_sh (p u:Bs) (i:Nat):byt (p++u) (p.length+i)=byt u i:=by
 unfold byt;rw[List.getD_eq_getElem?_getD,List.getD_eq_getElem?_getD,List.getElem?_append_right (by omega),show p.length+i-p.length=i by omega]
theorem qgc (p u:Bs) (i:Nat) (t:Bs):atD (p++u) (p.length+i) t=atD u i t:=by
 unfold atD;rw[qi0]
theorem idxD_sh (p u:Bs) (i:Nat) (c:UInt8):qim (p++u) (p.length+i) c=(qim u i c).map (p.length+·):=by
 unfold qim;rw[qi0,Option.map_map]
 congr 1
 funext x
 show x+(p.length+i)=p.length+(x+i)
 omega
theorem lt_sh (p u:Bs) (i:Nat) (h:i<u.length):p.length+i<(p++u).length:=by rw[lAq]; omega
theorem ql1 (n:Nat) (s:Bs) (i d:Nat) (h:s.length<=i):qgj n s i d=none:=by
 cases n with
 | zero=>unfold qgj; rfl
 | succ n=>unfold qgj; rw[iN (by omega)]
theorem qlh (n:Nat) (s:Bs) (i:Nat) (h:s.length<=i):qkx n s i=none:=by
 cases n with
 | zero=>unfold qkx; rfl
 | succ n=>unfold qkx; rw[iN (by omega)]
theorem sh_clo (p u:Bs):∀n,(∀n' i d,u.length+1<=n+i->u.length+1<=n'+i->qgj n' (p++u) (p.length+i) d=(qgj n u i d).map (p.length+·))/\(∀n' i,u.length+1<=n+i->u.length+1<=n'+i->qkx n' (p++u) (p.length+i)=(qkx n u i).map (p.length+·))
 | 0=>⟨fun n' i d h _=>by rw[ql1 n' _ _ _ (by rw[lAq]; omega),ql1 0 u i d (by omega)]; rfl,fun n' i h _=>by rw[qlh n' _ _ (by rw[lAq]; omega),qlh 0 u i (by omega)]; rfl⟩
 | n+1=>by
  obtain⟨hC,hQ⟩:=sh_clo p u n;refine⟨fun n' i d h h'=>?_,fun n' i h h'=>?_⟩
  . by_cases hlt:i<u.length
    . obtain⟨k,rfl⟩:∃k,n'=k+1:=⟨n'-1,by omega⟩
      unfold qgj;rw[iP (lt_sh p u i hlt),iP hlt,byt_sh];by_cases h92:byt u i=92
      . rw[iP h92,iP h92]
        exact hC k (i+2) d (by omega) (by omega)
      rw[iN h92,iN h92];by_cases h39:byt u i=39
      . rw[iP h39,iP h39,show p.length+i+1=p.length+(i+1)from rfl,idxD_sh]
        cases hx:qim u (i+1) 39 with
        | none=>rfl
        | some j=>
         have:=qdu hx;exact hC k (j+1) d (by omega) (by omega)
      rw[iN h39,iN h39];by_cases h34:byt u i=34
      . rw[iP h34,iP h34,show p.length+i+1=p.length+(i+1)from rfl,hQ k (i+1) (by omega) (by omega)]
        cases hx:qkx n u (i+1)with
        | none=>rfl
        | some j=>
         have:=(qkc n).2 _ _ _ hx;exact hC k j d (by omega) (by omega)
      rw[iN h34,iN h34];by_cases h40:byt u i=40
      . rw[iP h40,iP h40]
        exact hC k (i+1) (d+1) (by omega) (by omega)
      rw[iN h40,iN h40];by_cases h41:byt u i=41
      . rw[iP h41,iP h41]
        by_cases h1:d=1
        . rw[iP h1,iP h1]; rfl
        . rw[iN h1,iN h1]
          exact hC k (i+1) (d-1) (by omega) (by omega)
      . rw[iN h41,iN h41]
        exact hC k (i+1) d (by omega) (by omega)
    . rw[ql1 n' _ _ _ (by rw[lAq]; omega),ql1 (n+1) u i d (by omega)]; rfl
  . by_cases hlt:i<u.length
    . obtain⟨k,rfl⟩:∃k,n'=k+1:=⟨n'-1,by omega⟩
      unfold qkx;rw[iP (lt_sh p u i hlt),iP hlt,byt_sh,qgc];by_cases h92:byt u i=92
      . rw[iP h92,iP h92]
        exact hQ k (i+2) (by omega) (by omega)
      rw[iN h92,iN h92];by_cases h34:byt u i=34
      . rw[iP h34,iP h34]; rfl
      rw[iN h34,iN h34];by_cases h36:atD u i [36,40]=true
      . rw[iP h36,iP h36,show p.length+i+2=p.length+(i+2)from rfl,hC k (i+2) 1 (by omega) (by omega)]
        cases hx:qgj n u (i+2) 1 with
        | none=>rfl
        | some j=>
         have:=(qkc n).1 _ _ _ _ hx;exact hQ k j (by omega) (by omega)
      . rw[iN h36,iN h36]
        exact hQ k (i+1) (by omega) (by omega)
    . rw[qlh n' _ _ (by rw[lAq]; omega),qlh (n+1) u i (by omega)]; rfl
def shR (m:Nat):Except Flt (List Part×Nat)->Except Flt (List Part×Nat)
 | .ok q=>.ok (q.1,m+q.2)
 | .error e=>.error (e.1,m+e.2)
def shD (m:Nat):Except Flt (Option (Part×Nat))->Except Flt (Option (Part×Nat))
 | .ok none=>.ok none
 | .ok (some q)=>.ok (some (q.1,m+q.2))
 | .error e=>.error (e.1,m+e.2)
theorem sh_pars (p u:Bs):∀n,(∀w deep i out text,i<=u.length->2*(u.length-i)+1<=n->qam n (p++u) w deep (p.length+i) out text=shR p.length (qam n u w deep i out text))/\(∀w deep i,i<u.length->2*(u.length-i)<=n->qh6 n (p++u) w deep (p.length+i)=shD p.length (qh6 n u w deep i))
 | 0=>⟨fun w deep i out text hi hn=>by omega,fun w deep i hi hn=>by omega⟩
 | n+1=>by
  obtain⟨hP,hD⟩:=sh_pars p u n;refine⟨fun w deep i out text hi hn=>?_,fun w deep i hi hn=>?_⟩
  . unfold qam
    rw[qgc,show p.length+i+1=p.length+(i+1)from rfl,idxD_sh];by_cases hc:i<u.length/\qi1 w (byt u i)=false
    . rw[iP (show p.length+i<(p++u).length/\qi1 w (byt (p++u) (p.length+i))=false from⟨lt_sh p u i hc.1,by rw[byt_sh]; exact hc.2⟩),iP hc,byt_sh,byt_sh]
      have hlt:=hc.1;by_cases h1:atD u i [92,10]=true
      . have:=qb1 h1 (by decide)
        simp only[List.length_cons,List.length_nil]at this;rw[iP h1,iP h1];exact hP w deep (i+2) out text (by omega) (by omega)
      rw[iN h1,iN h1];by_cases h92:byt u i=92
      . rw[iP h92,iP h92]
        by_cases hle:u.length<=i+1
        . rw[iP hle,iP (show(p++u).length<=p.length+(i+1) by rw[lAq]; omega)]; rfl
        . rw[iN hle,iN (show ¬(p++u).length<=p.length+(i+1) by rw[lAq]; omega)]
          by_cases hw:inD w=true
          . rw[iP hw,iP hw]
            exact hP w deep (i+2) out _ (by omega) (by omega)
          . rw[iN hw,iN hw]
            exact hP w deep (i+2) _ [] (by omega) (by omega)
      rw[iN h92,iN h92];by_cases h36:byt u i=36
      . rw[iP h36,iP h36,hD w deep i hlt (by omega)]
        cases hx:qh6 n u w deep i with
        | error e=>rfl
        | ok r=>
         cases r with
         | none=>exact hP w deep (i+1) out _ (by omega) (by omega)
         | some q=>
          have:=(qcc n).2 _ _ _ _ _ _ hx;exact hP w deep q.2 _ [] (by omega) (by omega)
      rw[iN h36,iN h36];by_cases hb:(decide (byt u i=96)||(byt u i==34&&w==4))=true
      . rw[iP hb,iP hb]; rfl
      rw[iN hb,iN hb];by_cases h39:(decide (byt u i=39)&&!inD w)=true
      . rw[iP h39,iP h39]
        cases hx:qim u (i+1) 39 with
        | none=>rfl
        | some k=>
         have hk:=qdu hx
         have e:((p++u).drop (p.length+(i+1))).take (p.length+k-(p.length+(i+1)))=(u.drop (i+1)).take (k-(i+1)):=by
          rw[qi0]
          congr 1
          omega
         show qam n (p++u) w deep (p.length+k+1) (qi4 w out text++[.mk 1 (((p++u).drop (p.length+(i+1))).take (p.length+k-(p.length+(i+1)))) [] false []]) []=_;rw[e];exact hP w deep (k+1) _ [] (by omega) (by omega)
      rw[iN h39,iN h39];by_cases h34:(decide (byt u i=34)&&!inD w)=true
      . rw[iP h34,iP h34,hP 1 deep (i+1) [] [] (by omega) (by omega)]
        cases hx:qam n u 1 deep (i+1) [] []with
        | error e=>rfl
        | ok q=>
         obtain⟨l,j⟩:=q;have hj:=(qcc n).1 _ _ _ _ _ _ _ _ hx (by omega);show(if atD (p++u) (p.length+j) [34]=true then qam n (p++u) w deep (p.length+j+1) (qi4 w out text++if l.isEmpty=true then [.mk 1 [] [] true []]else l) []else .error (19,p.length+i))=shR p.length (if atD u j [34]=true then qam n u w deep (j+1) (qi4 w out text++if l.isEmpty=true then [.mk 1 [] [] true []]else l) []else .error (19,i));rw[qgc];by_cases ha:atD u j [34]=true
         . have:=qb1 ha (by decide)
           simp only[List.length_cons,List.length_nil]at this;rw[iP ha,iP ha];exact hP w deep (j+1) _ [] (by omega) (by omega)
         . rw[iN ha,iN ha]; rfl
      . rw[iN h34,iN h34]
        exact hP w deep (i+1) out _ (by omega) (by omega)
    . rw[iN hc,iN (show ¬(p.length+i<(p++u).length/\qi1 w (byt (p++u) (p.length+i))=false) by rw[byt_sh,lAq]; exact fun h=>hc ⟨by omega,h.2⟩)]; rfl
  . unfold qh6
    rw[qgc,qgc,qgc];by_cases h1:atD u i [36,40,40]=true
    . rw[iP h1,iP h1]; rfl
    rw[iN h1,iN h1];by_cases h2:atD u i [36,40]=true
    . have:=qb1 h2 (by decide)
      simp only[List.length_cons,List.length_nil]at this;rw[iP h2,iP h2,show p.length+i+2=p.length+(i+2)from rfl,(sh_clo p u (2*u.length)).1 (2*(p++u).length) (i+2) 1 (by omega) (by rw[lAq]; omega)];cases hx:qgj (2*u.length) u (i+2) 1 with
      | none=>rfl
      | some j=>
       have hj:=(qkc _).1 _ _ _ _ hx;show Except.ok (some (Part.mk 3 (((p++u).drop (p.length+(i+2))).take (p.length+j-1-(p.length+(i+2)))) [] (inD w) [],p.length+j))=Except.ok (some (Part.mk 3 ((u.drop (i+2)).take (j-1-(i+2))) [] (inD w) [],p.length+j));rw[qi0,show p.length+j-1-(p.length+(i+2))=j-1-(i+2) by omega]
    rw[iN h2,iN h2];by_cases h3:atD u i [36,123]=true
    . have h3l:=qb1 h3 (by decide)
      simp only[List.length_cons,List.length_nil]at h3l;rw[iP h3,iP h3];by_cases hd:20<=deep
      . rw[iP hd,iP hd]; rfl
      rw[iN hd,iN hd];rw[show p.length+i+2=p.length+(i+2)from rfl,show p.length+i+3=p.length+(i+3)from rfl,qgc,qi0,qi0,show p.length+(i+3)+qcw (u.drop (i+3)) [63,64,42]=p.length+(i+3+qcw (u.drop (i+3)) [63,64,42]) by omega,qgc];by_cases hl:(atD u (i+2) [35]&&qcw (u.drop (i+3)) [63,64,42] != 0&&atD u (i+3+qcw (u.drop (i+3)) [63,64,42]) [125])=true
      . rw[iP hl,iP hl]; rfl
      rw[iN hl,iN hl];dsimp only;rw[show p.length+(i+2)+qcw (u.drop (i+2)) [63,35,64,42]=p.length+(i+2+qcw (u.drop (i+2)) [63,35,64,42]) by omega];by_cases hm:qcw (u.drop (i+2)) [63,35,64,42]=0
      . rw[iP hm,iP hm]; rfl
      rw[iN hm,iN hm,qgc];by_cases hb:atD u (i+2+qcw (u.drop (i+2)) [63,35,64,42]) [125]=true
      . rw[iP hb,iP hb]; rfl
      rw[iN hb,iN hb];rw[show(fun o=>atD (p++u) (p.length+(i+2+qcw (u.drop (i+2)) [63,35,64,42])) o)=fun o=>atD u (i+2+qcw (u.drop (i+2)) [63,35,64,42]) o from funext fun o=>qgc ..];cases hf:opsT.find? fun o=>atD u (i+2+qcw (u.drop (i+2)) [63,35,64,42]) o with
      | none=>rfl
      | some o=>
       have hfa:=qmc hf;dsimp only;rw[show p.length+(i+2+qcw (u.drop (i+2)) [63,35,64,42])+o.length=p.length+(i+2+qcw (u.drop (i+2)) [63,35,64,42]+o.length) by omega,hP (if inD w then 4 else 3) (deep+1) _ [] [] hfa.2.1 (by omega)];cases hx:qam n u (if inD w then 4 else 3) (deep+1) (i+2+qcw (u.drop (i+2)) [63,35,64,42]+o.length) [] []with
       | error e=>rfl
       | ok q=>
        obtain⟨l,j⟩:=q;show(if atD (p++u) (p.length+j) [125]=true then Except.ok (some (Part.mk 2 ((u.drop (i+2)).take (qcw (u.drop (i+2)) [63,35,64,42])) o (inD w) l,p.length+j+1))else .error (19,p.length+i))=shD p.length (if atD u j [125]=true then Except.ok (some (Part.mk 2 ((u.drop (i+2)).take (qcw (u.drop (i+2)) [63,35,64,42])) o (inD w) l,j+1))else .error (19,i));rw[qgc];by_cases ha:atD u j [125]=true
        . rw[iP ha,iP ha]; rfl
        . rw[iN ha,iN ha]; rfl
    . rw[iN h3,iN h3]
      dsimp only;rw[show p.length+i+1=p.length+(i+1)from rfl,qi0];by_cases hm:qcw (u.drop (i+1)) [63,35,64,42]=0
      . rw[iP hm,iP hm]; rfl
      . rw[iN hm,iN hm]
        show Except.ok (some (_,p.length+(i+1)+_))=Except.ok (some (_,p.length+(i+1+_)));rw[Nat.add_assoc p.length (i+1)]
open Go.RowKit
theorem pars_err:∀n,(∀s w deep i out text e,qam n s w deep i out text=.error e->i<=s.length->e.2<=s.length)/\(∀s w deep i e,qh6 n s w deep i=.error e->i<=s.length->e.2<=s.length)
 | 0=>⟨fun s w deep i out text e h hi=>by unfold qam at h; cases h; exact Nat.zero_le _,fun s w deep i e h hi=>by unfold qh6 at h; cases h; exact Nat.zero_le _⟩
 | n+1=>by
  obtain⟨hP,hD⟩:=pars_err n;refine⟨fun s w deep i out text e h hi=>?_,fun s w deep i e h hi=>?_⟩
  . unfold qam at h
    split at h
    . rename_i hlt
      split at h
      . rename_i ha
        have:=qb1 ha (by simp);exact hP _ _ _ _ _ _ _ h (by simpa using this)
      . split at h
        . split at h
          . cases h; exact hi
          . split at h
            . exact hP _ _ _ _ _ _ _ h (by omega)
            . exact hP _ _ _ _ _ _ _ h (by omega)
        . split at h
          . split at h
            . rename_i e' he
              cases h;exact hD _ _ _ _ _ he hi
            . exact hP _ _ _ _ _ _ _ h (by omega)
            . rename_i p k hk
              have h1:=(qcc n).2 _ _ _ _ _ _ hk;exact hP _ _ _ _ _ _ _ h (by omega)
          . split at h
            . cases h; exact hi
            . split at h
              . split at h
                . cases h; exact hi
                . rename_i k hk
                  have h1:=qdu hk;exact hP _ _ _ _ _ _ _ h (by omega)
              . split at h
                . split at h
                  . rename_i e' he
                    cases h;exact hP _ _ _ _ _ _ _ he (by omega)
                  . rename_i l' k hk
                    have h1:=(qcc n).1 _ _ _ _ _ _ _ _ hk (by omega);split at h
                    . rename_i ha
                      have h2:=qb1 ha (by simp);exact hP _ _ _ _ _ _ _ h (by simpa using h2)
                    . cases h; exact hi
                . exact hP _ _ _ _ _ _ _ h (by omega)
    . cases h
  . unfold qh6 at h
    split at h
    . cases h; exact hi
    . split at h
      . split at h
        . cases h; exact hi
        . cases h
      . split at h
        . split at h
          . cases h; exact hi
          . split at h
            . cases h
            . dsimp only at h
              split at h
              . cases h; exact hi
              . split at h
                . cases h
                . split at h
                  . cases h; exact hi
                  . rename_i o ho
                    have h1:=qmc ho;split at h
                    . rename_i e' he
                      cases h;exact hP _ _ _ _ _ _ _ he h1.2.1
                    . split at h
                      . cases h
                      . cases h; exact hi
        . dsimp only at h
          split at h
          . cases h
          . cases h
theorem oneI (n:Nat):OneV (V.int .i64 (n:Int)):=⟨rfl,rfl,rfl,rfl⟩
structure DX (S:St) (N:Nat) (toks:List Tok) (waits:List (Nat×Bs)) (v4 v5 v6:V):Prop where
 on:S.on=false
 lt:N<S.next
 box:∃Y,AgAt S N 29 2 Y
 tk:∃rT,RV S v4 39 5 rT/\TksAt S (fun x=>N<x/\x<S.next/\qa8 v4≠some x/\qa8 v5≠some x/\qa8 v6≠some x) toks rT
 w:RV S v5 3 1 (waits.map fun w=>Ev.one (V.int .i64 (w.1:Int)))
 e:RV S v6 9 1 (waits.map fun w=>Ev.one (sv w.2))
 tb:∀r,qa8 v4=some r->N<r/\qa8 v5≠some r/\qa8 v6≠some r
 wb:∀r,qa8 v5=some r->N<r/\qa8 v6≠some r
 eb:∀r,qa8 v6=some r->N<r
abbrev LxdR (o:Except Flt (List Tok)) (S:St) (N:Nat) (r:Rs):Prop:=match o with
 | .ok t=>∃U v rT,r=some (.ret (.tuple [v,.agg 2 (qb6 0 0)]),U)/\RV U v 39 5 rT/\TksAt U (fun x=>N<=x/\x<U.next) t rT/\(∀r,qa8 v=some r->N<=r)/\Grew (fun x=>N<=x) S U
 | .error e=>∃U,r=some (.ret (.tuple [.nilslice,.agg 2 (qb6 e.1 e.2)]),U)/\e.1≠0/\Grew (fun x=>N<=x) S U
section
variable {K:FuncId->Option KF} {S U T:St} {i j N P:Nat} {s:Bs} {toks:List Tok} {waits:List (Nat×Bs)} {v4 v5 v6:V} {X Y:Tr V} {d q:Nat} {nk:Ac->St->Rs} {ek:Nat->Ac->St->Rs}
theorem LxdR.after {o:Except Flt (List Tok)} {r:Rs} (g:Grew (fun x=>N<=x) S T) (h:LxdR o T N r):LxdR o S N r:=by
 cases o with
 | ok t=>
  obtain⟨U,v,rT,h1,h2,h3,h4,h5⟩:=h;exact⟨U,v,rT,h1,h2,h3,h4,g.trans h5⟩
 | error e=>
  obtain⟨U,h1,h2,h3⟩:=h;exact⟨U,h1,h2,g.trans h3⟩
theorem DX.b4 (h:DX S N toks waits v4 v5 v6):∀r,qa8 v4=some r->r<S.next:=by
 obtain⟨rT,r1,_⟩:=h.tk;exact fun r hr=>r1.blk_lt hr
theorem DX.move (h:DX S N toks waits v4 v5 v6) (g:Grew (fun x=>S.next<=x) S U):DX U N toks waits v4 v5 v6:=by
 obtain⟨rT,r1,r2⟩:=h.tk;obtain⟨Y,hY⟩:=h.box;have hl:=h.lt;have nx:=g.next
 exact⟨g.on.trans h.on,by omega,⟨Y,hY.grew hl (by omega) g⟩,⟨rT,r1.grew (fun r hr hw=>by have:=h.b4 r hr; omega) g,(r2.grew g fun x hx=>by omega).mono fun x hx=>⟨hx.1,by omega,hx.2.2⟩⟩,h.w.grew (fun r hr hw=>by have:=h.w.blk_lt hr; omega) g,h.e.grew (fun r hr hw=>by have:=h.e.blk_lt hr; omega) g,h.tb,h.wb,h.eb⟩
theorem rv_cell (ho:S.on=false) (e:Nat) (z:Tr V) (v:V) (hv:OneV v):∃y T,bsP e 1 1 z [(0,v)] S=some (y,T)/\RV T y e 1 [Ev.one v]/\qa8 y=some S.next/\Grew (fun _=>False) S T/\T.next=S.next+1:=by
 obtain⟨T,h1,h2,h3,h4⟩:=bsP_ones ho e z [v] (fun u hu=>by cases List.mem_singleton.1 hu; exact hv) (by unfold big; simp);exact⟨_,T,h1 none,RV.one h2 (by omega),rfl,h3,h4⟩
theorem DX.push (h:DX S N toks waits v4 v5 v6) {t:Tok} (ht:TkAt S (fun x=>N<x/\x<S.next/\qa8 v4≠some x/\qa8 v5≠some x/\qa8 v6≠some x) t X) (hl:toks.length<50000) :
 ∃U v4',(∀k:V×St->Rs,((bsP 39 5 1 zT [(0,.agg 5 X)] S).bind fun p=>(apP 39 5 64 v4 p.1 p.2).bind k)=k (v4',U))/\DX U N (toks++[t]) waits v4' v5 v6/\Grew (fun x=>qa8 v4=some x) S U:=by
 obtain⟨y,T1,a1,a2,a3,a4,a5⟩:=qfk h.on 39 5 zT X (by omega) (by omega);have h1:=h.move (a4.mono fun x _ h=>h.elim);obtain⟨rT,r1,r2⟩:=h1.tk;obtain⟨Y,hY⟩:=h1.box;have e1:=r2.1;obtain⟨v',T2,b1,b2,b3,b4,_⟩:=r1.cat h1.on (by omega) (a2.pv h1.on) (B:=64) (by rw[e1,List.length_singleton]; omega) (by omega);have nx1:=a4.next
 have nx2:=b3.next
 have hlt:=h1.lt;refine⟨T2,v',fun k=>by rw[a1,b_s]; dsimp only; rw[b1,b_s],⟨b3.on.trans h1.on,by omega,⟨Y,hY.grew hlt (fun hw=>by have:=(h1.tb _ hw).1; omega) b3⟩,⟨rT++[X],b2,?_⟩,h1.w.grew (fun r hr hw=>(h1.tb r hw).2.1 hr) b3,h1.e.grew (fun r hr hw=>(h1.tb r hw).2.2 hr) b3,?_,h.wb,h.eb⟩,(a4.mono fun _ _ h=>h.elim).trans b3⟩
 . have hX:=(ht.grew a4 fun x hx hw=>hw)
   have hall:=r2.push (hX.mono fun x hx=>(⟨hx.1,by omega,hx.2.2⟩:N<x/\x<T1.next/\qa8 v4≠some x/\qa8 v5≠some x/\qa8 v6≠some x));refine(hall.grew b3 fun x hx hw=>hx.2.2.1 hw).mono fun x hx=>⟨hx.1,by omega,fun hv=>?_,hx.2.2.2⟩
   rcases b4 _ hv with h'|h'
   . exact hx.2.2.1 h'
   . omega
 . intro r hr
   rcases b4 r hr with h'|h'
   . exact h1.tb r h'
   . exact⟨by omega,fun hv=>by have:=h1.w.blk_lt hv; omega,fun hv=>by have:=h1.e.blk_lt hv; omega⟩
theorem DX.ge (h:DX S N toks waits v4 v5 v6) (g:Grew (fun x=>qa8 v4=some x) S U):Grew (fun x=>N<=x) S U:=g.mono fun x _ hx=>by have:=(h.tb x hx).1; omega
theorem DX.wait (h:DX S N toks waits v4 v5 v6) (n:Nat) (last:Bs) (hl:waits.length<50000) :
 ∃y T1 v5' T2 y' T3 v6' U,bsP 3 1 1 (Ev.one (.int .i64 0)) [(0,.int .i64 (n:Int))] S=some (y,T1)/\apP 3 1 8 v5 y T1=some (v5',T2)/\bsP 9 1 1 (Ev.one (sv [])) [(0,sv last)] T2=some (y',T3)/\apP 9 1 16 v6 y' T3=some (v6',U)/\DX U N toks (waits++[(n,last)]) v4 v5' v6'/\Grew (fun x=>N<=x) S U:=by
 obtain⟨y,T1,a1,a2,a3,a4,a5⟩:=rv_cell h.on 3 (Ev.one (.int .i64 0)) (.int .i64 (n:Int)) (oneI n);have h1:=h.move (a4.mono fun x _ h=>h.elim);obtain⟨w',T2,b1,b2,b3,b4,_⟩:=h1.w.cat h1.on (by omega) (a2.pv h1.on) (B:=8) (by rw[lM,List.length_singleton]; omega) (by omega);have on2:=b3.on.trans h1.on;obtain⟨y',T3,c1,c2,c3,c4,c5⟩:=rv_cell on2 9 (Ev.one (sv [])) (sv last) (oneV_sv last);have on3:=c4.on.trans on2;have e3:RV T3 v6 9 1 (waits.map fun w=>Ev.one (sv w.2)):=(h1.e.grew (fun r hr hw=>(h1.wb r hw).2 hr) b3).grew (fun r hr hw=>hw) c4;obtain⟨e',T4,d1,d2,d3,d4,_⟩:=e3.cat on3 (by omega) (c2.pv on3) (B:=16) (by rw[lM,List.length_singleton]; omega) (by omega);have on4:=d3.on.trans on3;have nx1:=a4.next
 have nx2:=b3.next
 have nx3:=c4.next
 have nx4:=d3.next
 have hlt:=h1.lt;obtain⟨rT,r1,r2⟩:=h1.tk;obtain⟨Y,hY⟩:=h1.box;have gB:Grew (fun x=>qa8 v5=some x\/qa8 v6=some x) T1 T4:=(b3.mono fun x _ h=>.inl h).trans ((c4.mono fun x _ h=>h.elim).trans (d3.mono fun x _ h=>.inr h))
 have hN:¬(qa8 v5=some N\/qa8 v6=some N):=fun hw=>by
  rcases hw with hw|hw
  . have:=(h1.wb _ hw).1; omega
  . have:=h1.eb _ hw; omega
 have hT:∀r,qa8 v4=some r->¬(qa8 v5=some r\/qa8 v6=some r):=fun r hr hw=>by
  rcases hw with hw|hw
  . exact(h1.tb r hr).2.1 hw
  . exact(h1.tb r hr).2.2 hw
 refine⟨y,T1,w',T2,y',T3,e',T4,a1,b1,c1,d1,⟨on4,by omega,⟨Y,hY.grew hlt hN gB⟩,⟨rT,r1.grew hT gB,?_⟩,?_,?_,?_,?_,?_⟩,?_⟩
 . refine(r2.grew gB fun x hx hw=>?_).mono fun x hx=>⟨hx.1,by omega,hx.2.2.1,fun hv=>?_,fun hv=>?_⟩
   . rcases hw with hw|hw
     . exact hx.2.2.2.1 hw
     . exact hx.2.2.2.2 hw
   . rcases b4 x hv with h'|h'
     . exact hx.2.2.2.1 h'
     . omega
   . rcases d4 x hv with h'|h'
     . exact hx.2.2.2.2 h'
     . omega
 . rw[List.map_append]
   refine(b2.grew (fun r hr hw=>hw) c4).grew (fun r hr hw=>?_) d3;rcases b4 r hr with h'|h'
   . exact(h1.wb r h').2 hw
   . have:=h1.e.blk_lt hw; omega
 . rw[List.map_append]
   exact d2
 . intro r hr
   have hr4:=h1.b4 r hr;refine⟨(h1.tb r hr).1,fun hv=>?_,fun hv=>?_⟩
   . rcases b4 r hv with h'|h'
     . exact(h1.tb r hr).2.1 h'
     . omega
   . rcases d4 r hv with h'|h'
     . exact(h1.tb r hr).2.2 h'
     . omega
 . intro r hr
   rcases b4 r hr with h'|h'
   . refine⟨(h1.wb r h').1,fun hv=>?_⟩
     rcases d4 r hv with h2|h2
     . exact(h1.wb r h').2 h2
     . have:=h1.w.blk_lt h'; omega
   . refine⟨by omega,fun hv=>?_⟩
     rcases d4 r hv with h2|h2
     . have:=h1.e.blk_lt h2; omega
     . have:=(RV.blk_lt b2 hr); omega
 . intro r hr
   rcases d4 r hr with h'|h'
   . exact h1.eb r h'
   . omega
 . refine(a4.mono fun _ _ h=>h.elim).trans (gB.mono fun x _ hw=>?_)
   rcases hw with hw|hw
   . have:=(h1.wb x hw).1; omega
   . have:=h1.eb x hw; omega
theorem DX.tok (h:DX S N toks waits v4 v5 v6) {t:Nat} {x:Tok} (hx:toks[t]?=some x):∃r v,qa8 v4=some r/\ixP 5 v4 (.int .i64 (t:Int))=some (.ptr r (t*5))/\(∃rows,RV S v 49 6 rows/\PrAt S (fun y=>N<y/\y<S.next/\qa8 v4≠some y/\qa8 v5≠some y/\qa8 v6≠some y) x.parts rows/\∀r,qa8 v=some r->N<r/\r<S.next/\qa8 v4≠some r/\qa8 v5≠some r/\qa8 v6≠some r)/\
 (∀j y,j<5->(qeb x v).get j=some y->ld1 (.ptr r (t*5+j)) S=some (y,S))/\
 (∀(j:Nat) (y:V) (x':Tok),j<5->(y.size=1/\y.cells=Ev.one y/\qae y=false)->TkAt S (fun y=>N<y/\y<S.next/\qa8 v4≠some y/\qa8 v5≠some y/\qa8 v6≠some y) x' ((qeb x v).set y j)->∃U,stP 1 (.ptr r (t*5+j)) y S=some (.tuple [],U)/\DX U N (toks.set t x') waits v4 v5 v6/\Grew (fun z=>z=r) S U/\U.next=S.next):=by
 obtain⟨rT,r1,r2⟩:=h.tk;obtain⟨c,c1,v,rows,c2,c3,c4,c5⟩:=r2.2 t x hx;have hlt:=(List.getElem?_eq_some_iff.1 c1).1;obtain⟨r,h1,h2,h3,h4⟩:=r1.at hlt;obtain⟨Y,hY⟩:=h.box;have hln:=h.lt;subst c2;refine⟨r,v,h1,h2,⟨rows,c3,c4,c5⟩,fun j y hj hy=>qbx h.on h3 c1 hj hy,fun j y x' hj hs ht=>?_⟩;obtain⟨U,k1,k2,k3,k4⟩:=rv_st1 h.on h3 c1 hj (by omega) y hs.1 hs.2.1 hs.2.2;have hrN:=(h.tb r h1).1;refine⟨U,k1,⟨k3.on.trans h.on,by omega,⟨Y,hY.grew hln (by omega) k3⟩,⟨rT.set t ((qeb x v).set y j),?_,?_⟩,h.w.grew (fun q hq hx=>by subst hx; exact(h.tb _ h1).2.1 hq) k3,h.e.grew (fun q hq hx=>by subst hx; exact(h.tb _ h1).2.2 hq) k3,h.tb,h.wb,h.eb⟩,k3,k4⟩
 . rcases r1 with⟨rfl,_⟩|⟨r',g1,g2,g3,g4⟩
   . simp at hlt
   . have:r'=r:=by rcases g4 with rfl|rfl<;>exact Option.some.inj h1
     subst this;exact .inr ⟨r',k2,by omega,by rw[List.length_set]; exact g3,by rw[List.length_set]; exact g4⟩
 . refine((r2.set t ht).grew k3 fun z hz he=>?_).mono fun z hz=>⟨hz.1,by omega,hz.2.2⟩
   subst he;exact hz.2.2.1 h1
theorem wr9 (hK:RefL K) (m:Nat) (h:DX S N toks waits v4 v5 v6) (i:Nat):LxdR (.error (19,i)) S N (callP ((ev E0 K (m+1)).f 28 [.int .i64 (i:Int)] S) fun t S2=>(stP 2 (.ptr N 0) t S2).bind fun p=>(ldrA 2 (.ptr N 0) p.2).bind fun q=>some (En.ret (.tuple [.nilslice,q.1]),q.2)):=by
 obtain⟨U1,a1,a2,a3⟩:=qil hK m i h.on;obtain⟨Y,hY⟩:=h.box;have o1:=a2.on.trans h.on;obtain⟨U2,b1,b2,b3,b4⟩:=(hY.grew h.lt (fun h=>h) a2).stA o1 qda (qb6 19 i);refine⟨U2,?_,(by decide:(19:Nat)≠0),(a2.mono fun x _ h=>h.elim).trans (b3.mono fun x _ h=>by omega)⟩;rw[a1,callP_ret,b1,b_s];dsimp only;rw[b2.ldrA (b3.on.trans o1) qda,b_s]
end
theorem pars_here (s:Bs) (i k:Nat) (hik:i<=k) (hk:k<=s.length):qam (qcz s) (s.take k) 2 0 i [] []=shR i (qam (qcz s) ((s.drop i).take (k-i)) 2 0 0 [] []):=by
 have hsp:s.take k=s.take i++(s.drop i).take (k-i):=by
  have:=List.take_append_drop i (s.take k);rw[List.take_take,Nat.min_eq_left hik,List.drop_take]at this;exact this.symm
 have hl:(s.take i).length=i:=by rw[List.length_take]; omega
 have hu:((s.drop i).take (k-i)).length=k-i:=by rw[List.length_take,List.length_drop]; omega
 have:=(sh_pars (s.take i) ((s.drop i).take (k-i)) (qcz s)).1 2 0 0 [] [] (Nat.zero_le _) (by rw[hu]; unfold qcz; omega);rw[hl,Nat.add_zero,<- hsp]at this;exact this
section
variable {K:FuncId->Option KF} {S U T:St} {i j N P:Nat} {s:Bs} {toks:List Tok} {waits:List (Nat×Bs)} {v4 v5 v6:V} {X Y:Tr V} {d q:Nat} {nk:Ac->St->Rs} {ek:Nat->Ac->St->Rs}
abbrev DocsR (o:Except Flt (List Tok×Nat)) (S:St) (N:Nat) (s:Bs) (waits:List (Nat×Bs)) (v4 v5 v6:V) (r:Rs) (ro:Nat->St->Rs):Prop:=match o with
 | .ok q=>∃U,r=ro q.2 U/\DX U N q.1 waits v4 v5 v6/\Grew (fun x=>N<=x) S U
 | .error e=>LxdR (.error e) S N r
theorem DocsR.after {o:Except Flt (List Tok×Nat)} {r:Rs} {ro:Nat->St->Rs} (g:Grew (fun x=>N<=x) S T) (h:DocsR o T N s waits v4 v5 v6 r ro):DocsR o S N s waits v4 v5 v6 r ro:=by
 cases o with
 | ok q=>
  obtain⟨U,h1,h2,h3⟩:=h;exact⟨U,h1,h2,g.trans h3⟩
 | error e=>exact LxdR.after (o:=.error e) g h
theorem qjs (hK:RefL K) (d:Nat) (hs:s.length<=5000) (hd:18*s.length+600<=d) (nk:Ac->St->Rs) (ek:Nat->Ac->St->Rs) :
 ∀(ws:List (Nat×Bs)) (k i q:Nat) (toks:List Tok) (S:St),DX S N toks waits v4 v5 v6->waits.drop k=ws->(∀w∈waits,w.1<toks.length)->i<=s.length->ws.length<q->waits.length<=5000->
 DocsR (qek s ws i toks) S N s waits v4 v5 v6 (L9_362 (ev E0 K (d+1)) qa3 nk ek q (sv s) (.ptr N 0) v4 v5 v6 (.int .i64 (i:Int)) (.int .i64 (k:Int)) S) (fun j U=>ek 6 (fr 293 [(0,sv s),(3,.ptr N 0),(4,v4),(7,.int .i64 (j:Int))]) U)
 | ws,k,i,0,toks,S,h,hk,hix,hi,hq,hwl=>absurd hq (Nat.not_lt_zero _)
 | [],k,i,q+1,toks,S,h,hk,hix,hi,hq,hwl=>by
  refine⟨S,?_,h,Grew.refl _ _⟩;rw[L9_362_eq,h.w.len,b_s,lM];dsimp only;rw[qdz,dF (by have:=qc4 hk; omega),b_s,i_b,c_f]
 | w::ws,k,i,q+1,toks,S,h,hk,hix,hi,hq,hwl=>by
  obtain⟨hlt,hc,hr,hm⟩:=qcy hk;rw[List.length_cons]at hq;have hwt:=hix w hm;rw[qf8];generalize hR:L9_362 (ev E0 K (d+1)) qa3 nk ek (q+1) (sv s) (.ptr N 0) v4 v5 v6 (.int .i64 (i:Int)) (.int .i64 (k:Int)) S=R;rw[L9_362_eq,h.w.len,b_s,lM]at hR;dsimp only at hR;rw[qdz,dT hlt,b_s,i_b,c_t]at hR;obtain⟨re,e1,e2,e3,e4⟩:=h.e.at (i:=k) (by rw[lM]; exact hlt)
  obtain⟨rw_,w1,w2,w3,w4⟩:=h.w.at (i:=k) (by rw[lM]; exact hlt)
  have hge:(waits.map fun w=>Ev.one (sv w.2))[k]?=some (Ev.one (sv w.2)):=by rw[List.getElem?_map,List.getElem?_eq_getElem hlt,hc]; rfl
  have hgw:(waits.map fun w=>Ev.one (V.int .i64 (w.1:Int)))[k]?=some (Ev.one (V.int .i64 (w.1:Int))):=by rw[List.getElem?_map,List.getElem?_eq_getElem hlt,hc]; rfl
  rw[Nat.mul_one]at e2 w2;have le:ld1 (.ptr re k) S=some (sv w.2,S):=e3.ld1 h.on hge;have lw:ld1 (.ptr rw_ k) S=some (.int .i64 (w.1:Int),S):=w3.ld1 h.on hgw;rw[e2,b_s,le,b_s]at hR;dsimp only at hR;rw[docd_run hK d s (by omega) w.2 i hi,callP_ret]at hR;unfold qkq;cases hdoc:docD (s.length+1) s w.2 i with
  | none=>
   rw[hdoc]at hR;rw[show docV s i none=.tuple [sv [],.int .i64 (-1)]from rfl,ex0,b_s,ex1,b_s,lt0,b_s,i_b,show decide ((-1:Int)<0)=true from rfl,c_t,qfm,b_s]at hR;dsimp only at hR;dsimp only;rw[<- hR];exact wr9 hK d h s.length
  | some kj=>
   obtain⟨k',j⟩:=kj;have hkj:=docD_le _ _ _ _ _ _ hdoc;rw[hdoc]at hR;rw[show docV s i (some (k',j))=.tuple [sv ((s.drop i).take (k'-i)),.int .i64 (j:Int)]from rfl,ex0,b_s,ex1,b_s,lt0,b_s,i_b,show decide (((j:Nat):Int)<0)=false from dF (by omega),c_f,w2,b_s,lw,b_s]at hR;dsimp only at hR
   have hxt:toks[w.1]?=some (toks.getD w.1 ⟨0,[],[],false,0⟩):=by
    rw[List.getD_eq_getElem?_getD,List.getElem?_eq_getElem hwt]; rfl
   dsimp only;generalize toks.getD w.1 ⟨0,[],[],false,0⟩=x at hxt ⊢;obtain⟨r,v,a1,a2,⟨rows,a3,a4,a5⟩,a6,a7⟩:=h.tok hxt;generalize htx:(s.drop i).take (k'-i)=tx at *;have htl:tx.length=k'-i:=by rw[<- htx,List.length_take,List.length_drop]; omega
   obtain⟨U1,b1,b2,b3,b4⟩:=a7 1 (sv tx) {x with text:=tx} (by omega) ⟨rfl,rfl,rfl⟩ ⟨v,rows,setT_text ..,a3,a4,a5⟩;have hx1:(toks.set w.1 {x with text:=tx})[w.1]?=some {x with text:=tx}:=List.getElem?_set_self hwt;have hrN:=(h.tb r a1).1;have g1:Grew (fun x=>N<=x) S U1:=b3.mono fun x _ hx=>by omega
   rw[a2,b_s,n_k,b_s,faPg,b_s,b1,b_s]at hR;dsimp only at hR;obtain⟨r',v1,c1,c2,c3,c6,c7⟩:=b2.tok hx1;rw[a1]at c1;cases c1;rw[b_s,faPg,b_s,c6 3 _ (by omega) (qi9 ..),b_s]at hR;dsimp only at hR;rw[qfy,b_s,i_b]at hR;have hixn:∀(y:Tok),∀w'∈waits,w'.1<(toks.set w.1 y).length:=fun y w' hw'=>by rw[List.length_set]; exact hix w' hw'
   cases hqt:x.quoted with
   | true=>
    rw[hqt,Bool.not_true,c_f,qb0 (by omega),b_s]at hR;rw[iP rfl];rw[hqt]at b2;dsimp only;rw[<- hR];exact DocsR.after (s:=s) g1 (qjs hK d hs hd nk ek ws (k+1) j q _ U1 b2 hr (hixn _) hkj.2.2.2 (by omega) hwl)
   | false=>
    rw[hqt,nF,c_t]at hR;rw[iN (by simp),pars_here s i k' hkj.1 hkj.2.1,htx];have hp:=partsd_run hK (qcz s) (d+1) U1 0 tx 2 0 b2.on (by omega) (Nat.zero_le _) (by omega) (by unfold qcz; omega) (by unfold qcz; omega) (by unfold qcz; omega);rw[show((0:Nat):Int)=0 from rfl,show((2:Nat):Int)=2 from rfl]at hp;have zf:(Tr.ofListFrom .nil [(.int .i64 0),(.int .i64 0)] 0:Tr V)=qb6 0 0:=fl0;rw[zf]at hR;cases hpd:qam (qcz s) tx 2 0 0 [] []with
    | error e=>
     rw[hpd]at hp;obtain⟨U2,z,p1,p2,p3⟩:=hp;have hel:=(pars_err (qcz s)).1 _ _ _ _ _ _ _ hpd (Nat.zero_le _);have h2:=b2.move (p3.mono fun x _ h=>h.elim);rw[p1,callP_ret,ex03,b_s,ex13,b_s,ex2,b_s,b_s,qan]at hR;obtain⟨n1,n2,n3⟩:=qar h2.on 29 2 (qb6 0 0);have on1:=n2.on.trans h2.on;obtain⟨V1,m1,m2,m3,m4⟩:=n1.stA on1 qda (qb6 e.1 e.2);have oV:=m3.on.trans on1;rw[m1,b_s]at hR;dsimp only at hR;rw[f_0,b_s,m2.ld1 oV qda (by decide) (flt0 e.1 e.2),b_s]at hR;dsimp only at hR;have fa1:faP 1 false 1 (.ptr U2.next 0)=some (.ptr U2.next 1):=rfl;rw[ne27,show(e.1 != 0)=true by simpa using p2,b_s,i_b,c_t,fa1,b_s,m2.ld1 oV qda (by decide) (flt1 e.1 e.2),b_s]at hR;dsimp only at hR;obtain⟨V2,q1,q2,q3,q4⟩:=m2.st1 oV qda (by decide) (by decide:1<2) (.int .i64 ((e.2+i:Nat):Int)) rfl rfl rfl;have oV2:=q3.on.trans oV;rw[show(qb6 e.1 e.2).set (.int .i64 ((e.2+i:Nat):Int)) 1=qb6 e.1 (e.2+i) by kernel_rfl]at q2;rw[addN (by omega),b_s,b_s,q1,b_s]at hR;dsimp only at hR;have nx2:=n2.next
     have gV:Grew (fun x=>U2.next<=x) U2 V2:=(n2.mono fun x _ h=>h.elim).trans ((m3.mono fun x _ h=>by omega).trans (q3.mono fun x _ h=>by omega));have hV:=h2.move gV;have w1:ldA 2 (.ptr U2.next 0) (V2.lg [])=some (.agg 2 (qb6 e.1 (e.2+i)),V2.lg [⟨U2.next,0,0+2,false⟩]):=q2.ldOn qda [];obtain⟨Y,hY⟩:=hV.box;obtain⟨V3,r1,r2,r3,r4⟩:=hY.stA oV2 qda (qb6 e.1 (e.2+i));have oV3:=r3.on.trans oV2;have r5:=qk5 oV2 r1 [];rw[show onS V2=V2.lg []from Eq.trans rfl rfl,w1,b_s]at hR;dsimp only at hR;rw[qee,llg,r5,b_s]at hR;dsimp only at hR;obtain⟨W,t1,t2,t3,t4⟩:=qcp oV2 V3 [⟨N,0,0+2,true⟩] [(V2.lg [⟨U2.next,0,0+2,false⟩]).log,[],(V3.lg [⟨N,0,0+2,true⟩]).log];rw[t1]at hR
     have a0:AgAt W N 29 2 (qb6 e.1 (e.2+i)):=by
      obtain⟨c,x1,x2⟩:=r2;exact⟨c,by rw[t2]; exact x1,x2⟩
     rw[a0.ldrA t4 qda,b_s]at hR;have hl2:=h2.lt;show LxdR (.error (e.1,i+e.2)) S N R;refine⟨W,?_,p2,g1.trans ((p3.mono fun x _ h=>h.elim).trans ((gV.mono fun x _ h=>by omega).trans (qmh (r3.mono fun x _ h=>by omega) t2 t3 (t4.trans oV3.symm))))⟩;rw[<- hR,Nat.add_comm e.2 i]
    | ok lj=>
     rw[hpd]at hp;obtain⟨l,jj⟩:=lj;obtain⟨U2,v2,p1,⟨rows2,p2,p3,p4⟩,p5⟩:=hp;have h2:=b2.move (p5.mono fun x _ h=>h.elim);rw[p1,callP_ret,ex03,b_s,ex13,b_s,ex2,b_s,b_s,qan]at hR;obtain⟨n1,n2,n3⟩:=qar h2.on 29 2 (qb6 0 0);have on1:=n2.on.trans h2.on;obtain⟨V1,m1,m2,m3,m4⟩:=n1.stA on1 qda (qb6 0 0);have oV:=m3.on.trans on1;have nx2:=n2.next
     have gV:Grew (fun x=>U2.next<=x) U2 V1:=(n2.mono fun x _ h=>h.elim).trans (m3.mono fun x _ h=>by omega);have hV:=h2.move gV;have nx3:=gV.next
     rw[m1,b_s]at hR;dsimp only at hR;rw[f_0,b_s,m2.ld1 oV qda (by decide) (flt0 0 0),b_s]at hR;dsimp only at hR;rw[ne27,show((0:Nat) != 0)=false from rfl,b_s,i_b,c_f]at hR;obtain⟨r',v5',f1,f2,f3,f6,f7⟩:=hV.tok hx1;rw[a1]at f1;cases f1;have hb4:=b2.b4;have hb5:∀r,qa8 v5=some r->r<U1.next:=fun r hr=>b2.w.blk_lt hr
     have hb6:∀r,qa8 v6=some r->r<U1.next:=fun r hr=>b2.e.blk_lt hr
     have pV:RV V1 v2 49 6 rows2:=p2.grew (fun r hr hw=>by have:=p2.blk_lt hr; omega) gV;have hl1:=b2.lt
     obtain⟨U6,y1,y2,y3,y4⟩:=f7 2 v2 {x with text:=tx,parts:=l} (by omega) (qhq p2) ⟨v2,rows2,setT_parts _ _ _ l,pV,(p3.grew gV fun x hx hw=>by omega).mono fun z hz=>⟨by omega,by omega,fun hv=>by have:=hb4 _ hv; omega,fun hv=>by have:=hb5 _ hv; omega,fun hv=>by have:=hb6 _ hv; omega⟩,fun q hq=>by
      have g2:=p4 q hq;have g3:=p2.blk_lt hq
      exact⟨by omega,by omega,fun hv=>by have:=hb4 _ hv; omega,fun hv=>by have:=hb5 _ hv; omega,fun hv=>by have:=hb6 _ hv; omega⟩⟩
     rw[b_s,faPg,b_s,y1,b_s]at hR;dsimp only at hR;rw[qb0 (by omega),b_s]at hR;rw[set_set,hqt]at y2;show DocsR (qek s ws j (toks.set w.1 {x with text:=tx,parts:=l,quoted:=false})) S N s waits v4 v5 v6 R _;rw[<- hR];have g6:Grew (fun x=>N<=x) S U6:=g1.trans ((p5.mono fun x _ h=>h.elim).trans ((gV.mono fun x _ h=>by omega).trans (y3.mono fun x _ h=>by omega)));exact DocsR.after (s:=s) g6 (qjs hK d hs hd nk ek ws (k+1) j q _ U6 y2 hr (hixn _) hkj.2.2.2 (by omega) hwl)
theorem skid_run (hK:RefL K) (m:Nat) (hs:s.length<=5000) (nk:Ac->St->Rs) (ek:Nat->Ac->St->Rs) (v3 v4 v5 v6:V) :
 ∀(n i q:Nat),i<=s.length->s.length+1<=n+i->n<q->
 L9_461 (ev E0 K (m+1)) qa3 nk ek q (sv s) v3 v4 v5 v6 (.int .i64 (i:Int)) S=ek 2 (fr 293 [(0,sv s),(3,v3),(4,v4),(5,v5),(6,v6),(7,.int .i64 (qjn n s i:Int))]) S
 | n,i,0,hi,hn,hq=>absurd hq (Nat.not_lt_zero _)
 | 0,i,q+1,hi,hn,hq=>by omega
 | n+1,i,q+1,hi,hn,hq=>by
  have ih:=skid_run hK m hs nk ek v3 v4 v5 v6 n;rw[L9_461_eq,qfm,b_s];dsimp only;rw[qdz,b_s];by_cases hlt:i<s.length
  . have e32:=u8c (byt s i) 32 (by decide)
    have e9:=u8c (byt s i) 9 (by decide);have e92:=u8c (byt s i) 92 (by decide);rw[show((32:Nat):Int)=32 from rfl,show UInt8.ofNat 32=32 from rfl]at e32;rw[show((9:Nat):Int)=9 from rfl,show UInt8.ofNat 9=9 from rfl]at e9;rw[show((92:Nat):Int)=92 from rfl,show UInt8.ofNat 92=92 from rfl]at e92;have hx:ixS (sv s) (.int .i64 (i:Int))=some (.int .u8 ((byt s i).toNat:Int)):=by rw[qbl s .i64 i hlt,qb9 hlt]
    have ea:=qdy hK m s i [92,10] (by omega) (by decide) (by decide) S;rw[dT hlt];unfold qjn;by_cases h32:byt s i=32
    . rw[iP ⟨h32,hlt⟩]
      rw[dT h32]at e32;rw[h32]at e92;simp only[g_t,g_f,qf1,b_s,c_t,c_f,p_b,i_b,hx,e32,callP_ret,Bool.not_true];rw[h32,e92,show decide ((32:UInt8)=92)=false from rfl,b_s,i_b,c_f,qb0 (by omega),b_s,ih (i+1) q (by omega) (by omega) (by omega)]
    . rw[iN (fun h=>h32 h.1)]
      rw[dF h32]at e32;by_cases h9:byt s i=9
      . rw[iP h9]
        rw[dT h9]at e9;rw[h9]at e92;simp only[g_t,g_f,qf1,b_s,c_t,c_f,p_b,i_b,hx,e32,e9,callP_ret,Bool.not_true,nF];rw[h9,e92,show decide ((9:UInt8)=92)=false from rfl,b_s,i_b,c_f,qb0 (by omega),b_s,ih (i+1) q (by omega) (by omega) (by omega)]
      . rw[iN h9]
        rw[dF h9]at e9;cases ha:atD s i [92,10]with
        | true=>
         have hb:=at_byt ha;have hle:=qb1 ha (by decide);simp only[List.length_cons,List.length_nil]at hle;rw[ha]at ea;rw[dT hb]at e92;simp only[g_t,g_f,qf1,b_s,c_t,c_f,p_b,i_b,hx,e32,e9,e92,ea,callP_ret,Bool.not_true,nF];rw[iP trivial,qb0 (by omega),b_s,qb0 (by omega),b_s,ih (i+2) q (by omega) (by omega) (by omega)]
        | false=>
         rw[ha]at ea;simp only[g_t,g_f,qf1,b_s,c_t,c_f,p_b,i_b,hx,e32,e9,ea,callP_ret,Bool.not_true,nF];rw[iN (by simp)]
  . have hsk:qjn (n+1) s i=i:=by
     have:i=s.length:=by omega
     subst this;unfold qjn
     have hb:byt s s.length=0:=by
      unfold byt;rw[List.getD_eq_getElem?_getD,List.getElem?_eq_none (lR _)];rfl
     have ha:atD s s.length [92,10]=false:=by
      unfold atD;rw[List.drop_length];rfl
     rw[iN (by omega),iN (by rw[hb]; decide),ha,iN (by decide)]
    rw[dF hlt,hsk];simp only[g_t,g_f,qf1,b_s,c_t,c_f,p_b,i_b,callP_ret,Bool.not_true,nF]
theorem scan447 (self:EV) (M:Nat) (nk:Ac->St->Rs) (ek:Nat->Ac->St->Rs) (hs:s.length<1000000000) (v3 v4 v5 v6:V) :
 ∀(m k q:Nat),k+m=s.length->m<q->L9_447 self M nk ek q (sv s) v3 v4 v5 v6 (.int .i64 (k:Int)) S=ek 4 (fr 293 [(0,sv s),(3,v3),(4,v4),(5,v5),(6,v6),(7,.int .i64 (qjl s k 10:Int))]) S
 | _,_,0,_,hq=>by omega
 | 0,k,q+1,hk,hq=>by
  rw[L9_447_eq,qfm,b_s];dsimp only;rw[qdz,dF (by omega),b_s];simp only[g_t,qf1,b_s,c_f,p_b,i_b];rw[show qjl s k 10=k by unfold qjl; rw[ql8 (by omega)]; exact(by omega:s.length=k)]
 | m+1,k,q+1,hk,hq=>by
  have hlt:k<s.length:=by omega
  have ih:=scan447 self M nk ek hs v3 v4 v5 v6 m (k+1) q (by omega) (by omega);have e:=u8neU (byt s k) 10;rw[show((10:UInt8).toNat:Int)=10 from rfl]at e;rw[L9_447_eq,qfm,b_s];dsimp only;rw[qdz,dT hlt,b_s];simp only[g_t,b_s,c_t];rw[qbl s .i64 k hlt,qb9 hlt,b_s,e,b_s,p_b,c_t,b_s,i_b];unfold qjl at ih ⊢;rw[qj0 hlt];by_cases hb:byt s k=10
  . rw[dT hb,iP hb,Bool.not_true,c_f]
    rfl
  . rw[dF hb,iN hb,nF,c_t,qb0 (by omega),b_s,ih]
end
end Go.Proofs.YtafbipadnnmccaaDoor.W
