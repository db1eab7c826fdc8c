/-
  WHAT THE FUNCTIONS COME TO: each is read by the evaluator,printed,and told as a function of data,part 11 of 12 (no condition).
-/
import Derived.Test.YtachpdpmoihjmaaW10
namespace Go.Proofs.Ytachpdpmoihjmaa.W
open Go.Proofs.Ytachpdpmoihjmaa.Ev
theorem L15_z:∃Z:Tr V,∀(self:EV) (N:Nat) (nk:Ac->St->Rs) (ek:Nat->Ac->St->Rs) (n:Nat) (v0 v5 v7 v9 v10 v11:V) (S:St),qcy self N nk ek (n+1) v0 v5 v7 v9 v10 v11 S =
(qa2 v0).bind fun t28=>
(faP 0 false 1 t28).bind fun t29=>
(ld1 t29 S).bind fun p30=>
(ixP 258 p30.1 v10).bind fun t32=>
(faP 256 false 1 t32).bind fun t33=>
(ld1 t33 p30.2).bind fun p34=>
(qa4 E0 .neq 3 false true p34.1 (.int .i64 6)).bind fun t35=>
ifK t35 (
(qa2 v0).bind fun t37=>
(faP 0 false 1 t37).bind fun t38=>
(ld1 t38 p34.2).bind fun p39=>
(ixP 258 p39.1 v10).bind fun t41=>
(ldA 258 t41 p39.2).bind fun p42=>
(some (nwP 50 258 Z p42.2)).bind fun p43=>
(stP 258 p43.1 p42.1 p43.2).bind fun p44=>
(faP 256 false 1 p43.1).bind fun t45=>
(ld1 t45 p44.2).bind fun p46=>
(qa4 E0 .eql 3 false true p46.1 (.int .i64 0)).bind fun t47=>
ifK t47 (
(qa4 E0 .add 3 false true v11 (.int .i64 1)).bind fun t50=>
(qa4 E0 .add 3 false true v10 (.int .i64 1)).bind fun t53=>
qcy self N nk ek n v0 v5 v7 v9 t53 t50 p46.2) (
(qa4 E0 .eql 3 false true p46.1 (.int .i64 5)).bind fun t55=>
ifK t55 (
(faP 257 false 1 p43.1).bind fun t58=>
(ld1 t58 (onS p46.2)).bind fun p59=>
(qa4 E0 .quo 3 false true p59.1 (.int .i64 2)).bind fun t60=>
(faP 257 false 1 p43.1).bind fun t61=>
(ld1 t61 (onS p59.2)).bind fun p62=>
(qa4 E0 .rem 3 false true p62.1 (.int .i64 2)).bind fun t63=>
(ixP 2 v7 t60).bind fun t65=>
(ixA 2 1 false 1 t65 t63).bind fun t66=>
(stP 1 t66 v11 (onS p62.2)).bind fun p67=>
qfq [(2,[5])] p46.2 [[],[],p59.2.log,[],[],p62.2.log,[],[],[],[],p67.2.log] p67.2 fun S68=>
(qa4 E0 .add 3 false true v10 (.int .i64 1)).bind fun t70=>
qcy self N nk ek n v0 v5 v7 v9 t70 v11 S68) (
(qa4 E0 .eql 3 false true p46.1 (.int .i64 3)).bind fun t72=>
ifK t72 (
(qa4 E0 .add 3 false true v10 (.int .i64 1)).bind fun t75=>
(ixA 2 1 false 1 v5 (.int .i64 0)).bind fun t79=>
(ld1 t79 p46.2).bind fun p80=>
(qa4 E0 .sub 3 false false v11 p80.1).bind fun t81=>
(ixP 1 v9 t81).bind fun t82=>
(ld1 t82 p80.2).bind fun p83=>
(ixP 1 p83.1 t75).bind fun t85=>
(ld1 t85 p83.2).bind fun p86=>
(unV .not p86.1).bind fun t87=>
ifK t87 (
(faP 257 false 1 p43.1).bind fun t88=>
(ld1 t88 p86.2).bind fun p89=>
qcy self N nk ek n v0 v5 v7 v9 p89.1 v11 p89.2) (
qcy self N nk ek n v0 v5 v7 v9 t75 v11 p86.2)) (
(qa4 E0 .eql 3 false true p46.1 (.int .i64 4)).bind fun t91=>
ifK t91 (
(faP 257 false 1 p43.1).bind fun t93=>
(ld1 t93 p46.2).bind fun p94=>
qcy self N nk ek n v0 v5 v7 v9 p94.1 v11 p94.2) (
(qa4 E0 .add 3 false true v10 (.int .i64 1)).bind fun t97=>
qcy self N nk ek n v0 v5 v7 v9 t97 v11 p46.2))))) (
ek 2 (fr 100 [(7,v7)]) p34.2):=⟨_,fun self N nk ek n v0 v5 v7 v9 v10 v11 S=>L15_26_eq self N nk ek n v0 v5 v7 v9 v10 v11 S⟩
noncomputable def qgb (out:List (Int×Int)):List (Tr V):=out.map fun p=>tr2 p.1 p.2
theorem tr2_set0 (a e z:Int):(tr2 a e).set (.int .i64 z) 0=tr2 z e:=by kernel_rfl
theorem tr2_set1 (a e z:Int):(tr2 a e).set (.int .i64 z) 1=tr2 a z:=by kernel_rfl
section
variable {S:St}
theorem zero30:qet E0 30=some (.agg 2 (tr2 0 0)):=by kernel_rfl
theorem make27 (ho:S.on=false) (n:Nat) (hn:n<=1000):∃U,qb5 E0 27 (.int .i64 (n:Int)) (.int .i64 (n:Int)) S=some (.slice S.next 0 n n,U)/\RowAt U S.next 30 2 (qgb (List.replicate n (0,0)))/\Grew (fun _=>False) S U/\U.next=S.next+1:=by
 have hr:=qdv (s:=S) (e:=30) (z:=2) (n:=n) (v:=.agg 2 (tr2 0 0)) ho (by decide) (by unfold big; omega);refine⟨qg7 S 30 2 (.agg 2 (tr2 0 0)) n,?_,by unfold qgb; rw[List.map_replicate]; exact hr,qd3 ho _ _,rfl⟩;unfold qb5;rw[show qbi E0 27=some (30,2,16) by kernel_rfl,oB,show qda (.int .i64 (n:Int))=some n from rfl,oB,oB];unfold qjd;rw[show Nat.ble n n=true from ble_true.2 (lR _),blt_true.2 (show n*(16+2+1)<qan by unfold qan; omega),Bool.and_self,cT,zero30,oB];rfl
theorem ixP2 (x n i:Nat) (h:i<n):ixP 2 (.slice x 0 n n) (.int .i64 (i:Int))=some (.ptr x (i*2)):=by
 have h0:ixP 2 (.slice x 0 n n) (.int .i64 (i:Int))=bif Nat.blt i n then some (.ptr x (0+i*2))else none:=rfl;rw[h0,blt_true.2 h,cT,Nat.zero_add]
theorem out_st (ho:S.on=false) {x:Nat} {out:List (Int×Int)} (h:RowAt S x 30 2 (qgb out)) {i:Nat} (hi:i<out.length) (p:Int×Int):∃U,stP 2 (.ptr x (i*2)) (.agg 2 (tr2 p.1 p.2)) S=some (.tuple [],U)/\RowAt U x 30 2 (qgb (out.set i p))/\Grew (fun y=>y=x) S U/\U.next=S.next:=by
 obtain⟨U,a1,a2,a3,a4⟩:=h.stK ho (i:=i) (by unfold qgb; rw[lM]; exact hi) (tr2 p.1 p.2);refine⟨U,?_,by unfold qgb at a2 ⊢; rw[List.map_set]; exact a2,a3,a4⟩;rw[stP_agg,a1]; rfl
theorem out_st1 (ho:S.on=false) {x:Nat} {out:List (Int×Int)} (h:RowAt S x 30 2 (qgb out)) {to_:Nat} (hi:to_/2<out.length) (a:Nat):∃U,stP 1 (.ptr x (to_/2*2+to_%2)) (.int .i64 (a:Int)) S=some (.tuple [],U)/\RowAt U x 30 2 (qgb (putM out to_ a))/\Grew (fun y=>y=x) S U/\U.next=S.next:=by
 obtain⟨c,h1,h2⟩:=h.row;have hfit:=h.fit;have hln:(qgb out).length=out.length:=by unfold qgb; rw[lM]
 rw[hln]at h1 hfit;have hget:c.get (to_/2)=some (tr2 out[to_/2].1 out[to_/2].2):=h2 _ _ (by unfold qgb; rw[List.getElem?_map,List.getElem?_eq_getElem hi]; rfl);have hm2:to_%2<2:=Nat.mod_lt _ (by decide);have hgd:out.getD (to_/2) (-1,-1)=out[to_/2]:=by rw[List.getD_eq_getElem?_getD,List.getElem?_eq_getElem hi]; rfl
 have hset:(tr2 out[to_/2].1 out[to_/2].2).set (.int .i64 (a:Int)) (to_%2)=tr2 (if to_%2=0 then((a:Int),out[to_/2].2)else(out[to_/2].1,(a:Int))).1 (if to_%2=0 then((a:Int),out[to_/2].2)else(out[to_/2].1,(a:Int))).2:=by
  by_cases h0:to_%2=0
  . rw[h0,iP rfl,tr2_set0]
  . rw[iN h0,show to_%2=1 by omega,tr2_set1]
 refine⟨S.put x (.cells 30 2 out.length false (c.set ((tr2 out[to_/2].1 out[to_/2].2).set (.int .i64 (a:Int)) (to_%2)) (to_/2))),?_,⟨h.pos,?_,c.set ((tr2 out[to_/2].1 out[to_/2].2).set (.int .i64 (a:Int)) (to_%2)) (to_/2),?_,fun i t hit=>?_⟩,qbz x _,rfl⟩
 . show vu (bif Nat.beq 1 1&&!false then stK S x (to_/2*2+to_%2) 1 (Ev.one (.int .i64 (a:Int)))else none)=_
   rw[show(Nat.beq 1 1&&!false)=true from rfl,cT]
   have:stK S x (to_/2*2+to_%2) 1 (Ev.one (.int .i64 (a:Int)))=some (S.put x (.cells 30 2 out.length false (c.set ((tr2 out[to_/2].1 out[to_/2].2).set (.int .i64 (a:Int)) (to_%2)) (to_/2)))):=by
    unfold stK;rw[h1];simp only[ble_true.2 (show to_/2*2+to_%2+1<=2*out.length by omega),blt_true.2 hfit,Bool.and_self,nF,cT];unfold qfn;rw[show Nat.beq 1 2=false from rfl];have hv0:(Ev.one (V.int .i64 (a:Int))).get 0=some (.int .i64 (a:Int)):=rfl;simp only[Bool.false_and,cF,qfa,hv0,oB,Nat.add_zero,show(to_/2*2+to_%2)/2=to_/2 by omega,show(to_/2*2+to_%2)%2=to_%2 by omega,hget,Tr.setC_eq,qb6 ho]
   rw[this]; rfl
 . unfold qgb putM
   rw[lM,List.length_set]; exact hfit
 . unfold qgb putM
   rw[qe9,iP rfl,lM,List.length_set]
 . rw[Tr.get_set]
   unfold qgb putM at hit;rw[hgd,List.getElem?_map,List.getElem?_set]at hit;by_cases e:to_/2=i
   . subst e
     rw[iP rfl,iP hi]at hit;simp only[Option.map_some,oS]at hit;rw[iP rfl,hset,hit]
   . rw[iN e]at hit
     rw[iN (fun e'=>e e'.symm)];refine h2 i t ?_;unfold qgb;rw[List.getElem?_map];exact hit
end
section
variable {gr:Nat} {S:St} {b r:Nat} {L:List AS} {ts:List (Tr V)} {T:List UInt8} {s0 s1:Nat} {outL:List V}
theorem L15_spec (self:EV) (N:Nat) (nk:Ac->St->Rs) (ek:Nat->Ac->St->Rs) {x p5 ro g1 N1:Nat} (hxb:x≠b) (hxr:x≠r) (hx5:x≠p5) (hxo:x≠ro) (hxN:x<N1) (hL:L.length<=1000) (hle:s0<=s1) (hs1:s1<=1000) (hg:g1<=100) (hlen:outL.length=s1-s0+1) :
 ∀(f n a j:Nat) (out out':List (Int×Int)) (S:St),plc L (qd7 L T s1 (s1-s0+1)) s0 f n a out=some out'->s0<=a->f<=j->a+f<=1000000000->out.length=g1->Rg gr S b r L ts->RowAt S x 30 2 (qgb out)->x<S.next->AgAt S p5 30 2 (tr2 s0 s1)->p5<S.next->RowAt S ro 65 1 (outL.map Ev.one)->ro<S.next->RowsAt S N1 L T s0 s1 0 outL->
 ∃U,qcy self N nk ek j (.ptr b 0) (.ptr p5 0) (.slice x 0 g1 g1) (.slice ro 0 (s1-s0+1) (s1-s0+1)) (.int .i64 (n:Int)) (.int .i64 (a:Int)) S=ek 2 (fr 100 [(7,.slice x 0 g1 g1)]) U/\RowAt U x 30 2 (qgb out')/\x<U.next/\Grew (fun y=>y=x) S U
 | 0,n,a,j,out,out',S,hp,_,_,_,_,_,_,_,_,_,_,_,_=>by cases hp
 | f+1,n,a,0,out,out',S,_,_,hj,_,_,_,_,_,_,_,_,_,_=>by omega
 | f+1,n,a,j+1,out,out',S,hp,ha,hj,haf,hol,h,hr,hxn,h5,h5n,hro,hron,hrows=>by
  have ho:=h.on;obtain⟨Z,hZ⟩:=L15_z;rw[plc]at hp;cases hLn:L[n]? with
  | none=>rw[hLn]at hp; cases hp
  | some s=>
   rw[hLn]at hp;simp only at hp;have hn:=(List.getElem?_eq_some_iff.1 hLn).1;have hLs:L[n]=s:=(List.getElem?_eq_some_iff.1 hLn).2;obtain⟨u,hu1,hu2⟩:=h.rws.get hn;rw[hLs]at hu2;have rk:=row_ld ho h.row hu1 (j:=256) (by omega) hu2.kind;have hF:=hZ self N nk ek j (.ptr b 0) (.ptr p5 0) (.slice x 0 g1 g1) (.slice ro 0 (s1-s0+1) (s1-s0+1)) (.int .i64 (n:Int)) (.int .i64 (a:Int)) S;rw[qg8,oB,qcn,oB,Nat.zero_add,h.l0,oB]at hF;dsimp only at hF;rw[qih r _ n hn,oB,qcn,oB,rk,oB]at hF;dsimp only at hF;rw[binV_ii,intsV_neq,oB,ifK_bool]at hF;by_cases h6:s.kind=6
   . rw[iP h6]at hp
     simp only[oS]at hp;subst hp;rw[show(!decide ((s.kind:Int)=6))=false by rw[Bool.not_eq_false',decide_eq_true_eq]; omega,cF]at hF;exact⟨S,hF,hr,hxn,Grew.refl _ _⟩
   rw[iN h6]at hp;rw[show(!decide ((s.kind:Int)=6))=true by rw[Bool.not_eq_true',decide_eq_false_iff_not]; omega,cT,oB,qcn,oB,Nat.zero_add,h.l0,oB]at hF;dsimp only at hF;rw[qih r _ n hn,oB,row_ldA ho h.row hu1,oB]at hF;dsimp only at hF;obtain⟨a1,a2,a3⟩:=qe2 ho 50 258 Z;have on1:(nwP 50 258 Z S).2.on=false:=qfs ho _;obtain⟨S2,b1,b2,b3,b4⟩:=a1.stA on1 qdb u;have on2:=b3.on.trans on1;have g2:Grew (fun _=>False) S S2:=a2.own (lR _) b3;have F:¬False:=fun h=>h;have h2:=h.grew F F g2;have hr2:=hr.grew hxn F g2;have h52:=h5.grew h5n F g2;have hro2:=hro.grew hron F g2;have hrows2:=hrows.grew (W:=fun _=>False) (fun _ _ _ h=>h) g2;have n2:=g2.next
   have hkind:=b2.ld1 on2 qdb (by decide) hu2.kind;have hto:=b2.ld1 on2 qdb (by decide) hu2.to_;rw[oB]at hF;rw[qde,b1,oB]at hF;dsimp only at hF;rw[qcn,oB,Nat.zero_add,hkind,oB]at hF;dsimp only at hF;have eqk:∀(c:Int),qa4 E0 .eql 3 false true (.int .i64 (s.kind:Int)) (.int .i64 c)=some (.bool (decide ((s.kind:Int)=c))):=fun c=>by rw[binV_ii,intsV_eql]
   have hwn:=qa5 (i:=n) (by omega);have hwa:=qa5 (i:=a) (by omega)
   have fin:∀{n' a':Nat} {out1:List (Int×Int)} {S3:St},plc L (qd7 L T s1 (s1-s0+1)) s0 f n' a' out1=some out'->s0<=a'->a'+f<=1000000000->out1.length=g1->RowAt S3 x 30 2 (qgb out1)->Grew (fun y=>y=x) S2 S3->qcy self N nk ek (j+1) (.ptr b 0) (.ptr p5 0) (.slice x 0 g1 g1) (.slice ro 0 (s1-s0+1) (s1-s0+1)) (.int .i64 (n:Int)) (.int .i64 (a:Int)) S=qcy self N nk ek j (.ptr b 0) (.ptr p5 0) (.slice x 0 g1 g1) (.slice ro 0 (s1-s0+1) (s1-s0+1)) (.int .i64 (n':Int)) (.int .i64 (a':Int)) S3->∃U,qcy self N nk ek (j+1) (.ptr b 0) (.ptr p5 0) (.slice x 0 g1 g1) (.slice ro 0 (s1-s0+1) (s1-s0+1)) (.int .i64 (n:Int)) (.int .i64 (a:Int)) S=ek 2 (fr 100 [(7,.slice x 0 g1 g1)]) U/\RowAt U x 30 2 (qgb out')/\x<U.next/\Grew (fun y=>y=x) S U:=fun{n' a' out1 S3} hp' ha' haf' hol' hr' g3 e=>by
    obtain⟨U,u1,u2,u3,u4⟩:=L15_spec self N nk ek hxb hxr hx5 hxo hxN hL hle hs1 hg hlen f n' a' j out1 out' S3 hp' ha' (by omega) haf' hol' (h2.grew (fun e=>hxb e.symm) (fun e=>hxr e.symm) g3) hr' (by have:=g3.next; omega) (h52.grew (by omega) (fun e=>hx5 e.symm) g3) (by have:=g3.next; omega) (hro2.grew (by omega) (fun e=>hxo e.symm) g3) (by have:=g3.next; omega) (hrows2.grew (fun y _ h1 h2=>by omega) g3);exact⟨U,e.trans u1,u2,u3,(g2.mono fun _ _ h=>h.elim).trans (g3.trans u4)⟩
   rw[eqk,oB,ifK_bool]at hF;by_cases h0:s.kind=0
   . rw[iP h0]at hp
     rw[h0,show decide (((0:Nat):Int)=0)=true from rfl,cT,binV_ii,intsV_add,hwa,oB,binV_ii,intsV_add,hwn,oB]at hF;exact fin hp (by omega) (by omega) hol hr2 (Grew.refl _ _) hF
   rw[iN h0]at hp;rw[show decide ((s.kind:Int)=0)=false by rw[decide_eq_false_iff_not]; omega,cF,eqk,oB,ifK_bool]at hF;by_cases h5k:s.kind=5
   . rw[iP h5k]at hp
     split at hp
     . rename_i hto2
       rw[h5k,show decide (((5:Nat):Int)=5)=true from rfl,cT,qcn,oB,Nat.zero_add,show onS S2=S2.lg []from rfl,qbl on2 hto,oB]at hF;dsimp only at hF;have ht:s.to_<1000:=by omega
       have on_:∀(S:St) (l:List LE),onS (S.lg l)=S.lg []:=fun _ _=>rfl
       have eq1:IntKind.i64.wrap ((s.to_:Int).tdiv 2)=((s.to_/2:Nat):Int):=by
        rw[show(s.to_:Int).tdiv 2=((s.to_/2:Nat):Int)from rfl,qap (by omega) (by omega)]
       rw[binV_ii,intsV_quo _ _ _ (by decide),eq1,oB,oB,on_,qbl on2 hto,oB]at hF;dsimp only at hF;rw[binV_ii,intsV_rem _ _ _ (by decide),show(s.to_:Int).tmod 2=((s.to_%2:Nat):Int)from rfl,oB,ixP2 x g1 (s.to_/2) (by omega),oB,qja 2 1 false 1 .i64 (Nat.mod_lt _ (by decide)),Nat.mul_one,oB,on_]at hF;obtain⟨S3,c1,c2,c3,c4⟩:=out_st1 on2 hr2 hto2 a;obtain⟨l1,c5⟩:=stP_lg on2 c1;have on3:=c3.on.trans on2;rw[c5,oB]at hF;dsimp only at hF;rw[qia (by rfl)]at hF;obtain⟨u1,u2,u3⟩:=qiw on2 l1 [[],[],(S2.lg [⟨S.next,257,257+1,false⟩]).log,[],[],(S2.lg [⟨S.next,257,257+1,false⟩]).log,[],[],[],[],(S3.lg l1).log] (s':=S3) on3;generalize qbf S2 (S3.lg l1) _=S4 at u1 u2 u3 hF;rw[binV_ii,intsV_add,hwn,oB]at hF;have g4:Grew (fun y=>y=x) S2 S4:=⟨by rw[u2]; exact c3.next,u3.trans on2.symm,fun y hy hw=>by rw[u1]; exact c3.keep y hy hw⟩
       exact fin hp ha (by omega) (by unfold putM; rw[List.length_set]; exact hol) (c2.same u1) g4 hF
     . cases hp
   rw[iN h5k]at hp;rw[show decide ((s.kind:Int)=5)=false by rw[decide_eq_false_iff_not]; omega,cF,eqk,oB,ifK_bool]at hF;by_cases h3:s.kind=3
   . rw[iP h3]at hp
     cases hrow:(qd7 L T s1 (s1-s0+1))[a-s0]? with
     | none=>rw[hrow]at hp; cases hp
     | some row=>
      rw[hrow,oB]at hp;have hlt:=(List.getElem?_eq_some_iff.1 hrow).1;rw[rowsG_len]at hlt;have has:a<=s1:=by omega
      rw[rowsG_row ha has,oS]at hrow;subst hrow;cases hq:(rwAt L T s1 a)[n+1]? with
      | none=>rw[hq]at hp; cases hp
      | some q=>
       rw[hq]at hp;simp only at hp;have hn1:=(List.getElem?_eq_some_iff.1 hq).1;rw[qel]at hn1;obtain⟨y,y1,y2,y3⟩:=hrows2 (a-s0) (Nat.zero_le _) (by omega);rw[show s0+(a-s0)=a by omega]at y3;have hld:=y3.ld on2 (k:=n+1) (by rw[qel]; exact hn1);have hbd:bd (rwAt L T s1 a) (n+1)=q:=by unfold bd; rw[List.getD_eq_getElem?_getD,hq]; rfl
       rw[hbd]at hld;have rs0:=h52.ld1 on2 big2 (i:=0) (by decide) (tr2_0 s0 s1);have rro:ld1 (.ptr ro (a-s0)) S2=some (.slice y 0 L.length L.length,S2):=hro2.ld1 on2 (by rw[List.getElem?_map,y1]; rfl);rw[h3,show decide (((3:Nat):Int)=3)=true from rfl,cT,binV_ii,intsV_add,hwn,oB,show ixA 2 1 false 1 (.ptr p5 0) (.int .i64 0)=some (.ptr p5 0)from rfl,oB,rs0,oB]at hF;dsimp only at hF;rw[binV_ii,intsV_sub,qap (by omega) (by omega),show(a:Int)-(s0:Int)=((a-s0:Nat):Int) by omega,oB,qdm ro _ (a-s0) (by omega),oB,rro,oB]at hF;dsimp only at hF;rw[qdm y _ (n+1) hn1,oB,hld,oB]at hF;dsimp only at hF;rw[unV_not,oB,ifK_bool]at hF;cases q with
       | true=>
        rw[iP rfl]at hp;rw[Bool.not_true,cF]at hF;exact fin hp ha (by omega) hol hr2 (Grew.refl _ _) hF
       | false=>
        rw[iN Bool.false_ne_true]at hp;rw[nF,cT,qcn,oB,Nat.zero_add,hto,oB]at hF;exact fin hp ha (by omega) hol hr2 (Grew.refl _ _) hF
   rw[iN h3]at hp;rw[show decide ((s.kind:Int)=3)=false by rw[decide_eq_false_iff_not]; omega,cF,eqk,oB,ifK_bool]at hF;by_cases h4:s.kind=4
   . rw[iP h4]at hp
     rw[h4,show decide (((4:Nat):Int)=4)=true from rfl,cT,qcn,oB,Nat.zero_add,hto,oB]at hF;exact fin hp ha (by omega) hol hr2 (Grew.refl _ _) hF
   . rw[iN h4]at hp
     rw[show decide ((s.kind:Int)=4)=false by rw[decide_eq_false_iff_not]; omega,cF,binV_ii,intsV_add,hwn,oB]at hF;exact fin hp ha (by omega) hol hr2 (Grew.refl _ _) hF
end
section
variable {gr:Nat} {S:St} {b r:Nat} {L:List AS} {ts:List (Tr V)} {T:List UInt8}
theorem L102_spec (self:EV) (N:Nat) (nk:Ac->St->Rs) (ek:Nat->Ac->St->Rs) (v0 v1 v5:V) (x n:Nat) (hn:n<=1000):∀(m i k:Nat) (S:St),i+m=n->m<k->S.on=false->x<S.next->RowAt S x 30 2 (qgb (List.replicate i (-1,-1)++List.replicate m (0,0)))->
 ∃U,L15_102 self N nk ek k v0 v1 v5 (.slice x 0 n n) (.int .i64 (n:Int)) (.int .i64 (i:Int)) S=ek 0 (fr 100 [(0,v0),(1,v1),(5,v5),(7,.slice x 0 n n)]) U/\RowAt U x 30 2 (qgb (List.replicate n (-1,-1)))/\Grew (fun y=>y=x) S U
 | m,i,0,S,_,hk,_,_,_=>by omega
 | 0,i,k+1,S,hi,_,ho,_,hr=>by
  refine⟨S,?_,by rw[<- hi]; simpa using hr,Grew.refl _ _⟩;rw[L15_102_eq,binV_ii,intsV_lss,qed (by omega),oB,ifK_bool,cF]
 | m+1,i,k+1,S,hi,hk,ho,hx,hr=>by
  obtain⟨S1,a1,a2,a3,a4⟩:=out_st ho hr (i:=i) (by simp) (-1,-1)
  have he:(List.replicate i ((-1:Int),(-1:Int))++List.replicate (m+1) ((0:Int),(0:Int))).set i (-1,-1)=List.replicate (i+1) (-1,-1)++List.replicate m (0,0):=by
   rw[List.set_append,iN (by simp),List.length_replicate,Nat.sub_self,List.replicate_succ,List.set_cons_zero,List.replicate_succ',List.append_assoc];rfl
  rw[he]at a2;obtain⟨U,b1,b2,b3⟩:=L102_spec self N nk ek v0 v1 v5 x n hn m (i+1) k S1 (by omega) (by omega) (a3.on.trans ho) (by omega) a2;refine⟨U,?_,b2,a3.trans b3⟩;rw[L15_102_eq,binV_ii,intsV_lss,qee (by omega),oB,ifK_bool,cT,build_30,oB,ixP2 x n i (by omega),oB,a1,oB];dsimp only;rw[binV_ii,intsV_add,qa5 (by omega),oB];exact b1
def FU:Nat:=100000001
theorem places_run {K:FuncId->Option KF} (hK:∀f,f≠9->K f=none) (m:Nat) {s0 s1:Nat} (hw:WF L) (hL:L.length<=1000) (hgr:gr<=90) (hT:T.length<=1000) (hle:s0<=s1) (hs:s1<=T.length) {out':List (Int×Int)} (hp:plc L (qd7 L T s1 (s1-s0+1)) s0 FU 0 s0 (out0 gr s0 s1)=some out') (h:Rg gr S b r L ts) :
 ∃U x,(ev E0 K (m+4)).f 15 [.ptr b 0,sv T,.agg 2 (tr2 s0 s1)] S=some (.ret (.slice x 0 (gr+1) (gr+1)),U)/\RowAt U x 30 2 (qgb out')/\x<U.next/\S.next<=x/\Grew (fun z=>S.next<=z) S U:=by
 have ho:=h.on;have hb:=h.hb;have hr:=h.hr;have F:¬False:=fun h=>h;obtain⟨S1,a1,a2,a3,a4⟩:=box_ag2 ho (tr2 s0 s1);have on1:=a3.on.trans ho;obtain⟨S2,b1,b2,b3,b4⟩:=make27 on1 (gr+1) (by omega);have on2:=b3.on.trans on1;obtain⟨S3,c1,c2,c3⟩:=L102_spec (ev E0 K (m+3)) qa3 (R15_9 (ev E0 K (m+3)) qa3 (qbg E0 (ev E0 K (m+3)) Try.f15) qav) (exB 0 (R15_9 (ev E0 K (m+3)) qa3 (qbg E0 (ev E0 K (m+3)) Try.f15) qav) qav) (.ptr b 0) (sv T) (.ptr S.next 0) S1.next (gr+1) (by omega) (gr+1) 0 qa3 S2 (by omega) (by unfold qa3; omega) on2 (by omega) (by simpa using b2)
 have on3:=c3.on.trans on2;have g13:Grew (fun _=>False) S1 S3:=b3.own (lR _) c3;have a23:=a2.grew (by omega) F g13;obtain⟨S4,d1,d2,d3,d4⟩:=out_st on3 c2 (i:=0) (by simp) ((s0:Int),(s1:Int));rw[Nat.zero_mul]at d1;have d2:RowAt S4 S1.next 30 2 (qgb (out0 gr s0 s1)):=d2
 have on4:=d3.on.trans on3;have g14:Grew (fun _=>False) S1 S4:=g13.own (lR _) d3;have g04:=a3.trans g14;have a24:=a2.grew (by omega) F g14;have h4:=h.grew F F g04;obtain⟨S5,ro,outL,e1,e2,e3,e4,e5,e6,e7⟩:=reach_run hK m hw hL hT hle hs h4;have on5:=e7.on.trans on4;have n34:S4.next=S3.next:=d4
 have n23:=c3.next
 have h5:=h4.grew (by omega) (by omega) e7;have a25:=a24.grew (by omega) (by omega) e7;have d5:=d2.grew (by omega) (by omega) e7;have n5:=e7.next
 have q0:=a25.ld1 on5 big2 (i:=0) (v:=.int .i64 (s0:Int)) (by decide) rfl;obtain⟨U,f1,f2,f3,f4⟩:=L15_spec (ev E0 K (m+3)) qa3 (R15_23 (ev E0 K (m+3)) qa3 (fun a s=>qa6 [6] a fun a=>(qbg E0 (ev E0 K (m+3)) Try.f15) a s) qav) (exB 2 (R15_23 (ev E0 K (m+3)) qa3 (fun a s=>qa6 [6] a fun a=>(qbg E0 (ev E0 K (m+3)) Try.f15) a s) qav) qav) (x:=S1.next) (p5:=S.next) (ro:=ro) (g1:=gr+1) (N1:=S4.next) (by omega) (by omega) (by omega) (by omega) (by omega) hL hle (by omega) (by omega) e3 FU 0 s0 qa3 (out0 gr s0 s1) out' S5 hp (lR _) (by unfold FU qa3; omega) (by unfold FU; omega) (out0_len ..) h5 d5 (by omega) a25 (by omega) e2 e6 e4;have gU:Grew (fun z=>S.next<=z) S U:=((g04.mono fun _ _ h=>h.elim).trans (e7.mono fun z _ hz=>by omega)).trans (f4.mono fun z _ hz=>by omega);refine⟨U,S1.next,qax (c:=C15) (d:=B15) (by kernel_rfl) (by kernel_rfl) (qa7 C15 _ (by kernel_rfl)) (hK 15 (by decide)) (?_:F15 (ev E0 K (m+3)) qa3 (.ptr b 0) (sv T) (.agg 2 (tr2 s0 s1)) S=_),f2,f3,by omega,gU⟩;rw[F15_eq,a1,oB];dsimp only;rw[qg8,oB,qcn,oB,Nat.zero_add,(h.grew F F a3).l1,oB];dsimp only;rw[binV_ii,intsV_add,qa5 (by omega),oB,b1,oB];dsimp only;rw[lnS_sl,oB];dsimp only;rw[show((0:Nat):Int)=0 from rfl]at c1 f1;rw[c1,exB_same,R15_9_eq,a23.ldA on3 big2,oB];dsimp only;rw[show ixP 2 (.slice S1.next 0 (gr+1) (gr+1)) (.int .i64 0)=some (.ptr S1.next 0)from rfl,oB,d1,oB];dsimp only
 rw[a24.ldA on4 big2,oB];dsimp only;rw[e1,callP_ret,show ixA 2 1 false 1 (.ptr S.next 0) (.int .i64 0)=some (.ptr S.next 0)from rfl,oB,show onS S5=S5.lg []from rfl,qbl on5 q0,oB];dsimp only;rw[show onS (S5.lg [⟨S.next,0,0+1,false⟩])=onS S5 from rfl,qam on5];refine f1.trans ?_;rw[exB_same,R15_23_eq]
theorem nil_b (b:Nat):qa4 E0 .eql 22 false true (.ptr b 0) .nilptr=some (.bool false):=rfl
theorem find_run {K:FuncId->Option KF} (hK:∀f,f≠9->K f=none) (m:Nat) {fr_:Nat} (he:Exp L gr) (hL:L.length<=1000) (hgr:gr<=90) (hT:T.length<=1000) (hf:fr_<=T.length) (h:Rg gr S b r L ts) :
 ∃U v,(ev E0 K (m+(L.length+1)+4)).f 8 [.ptr b 0,sv T,.int .i64 (fr_:Int)] S=some (.ret (.tuple [v,.bool (qcw L T fr_).isSome]),U)/\Grew (fun z=>S.next<=z) S U/\∀p,qcw L T fr_=some p->∃(x s0 s1:Nat) (out:List (Int×Int)),p=((s0:Int),(s1:Int))/\v=.slice x 0 (gr+1) (gr+1)/\RowAt U x 30 2 (qgb out)/\x<U.next/\S.next<=x/\out.length=gr+1/\out[0]?=some p/\plc L (qd7 L T s1 (s1-s0+1)) s0 FU 0 s0 (out0 gr s0 s1)=some out:=by
 have ho:=h.on;have hb:=h.hb;have hr:=h.hr;have hw:=he.wf;obtain⟨S1,a1,a2⟩:=whole_run hK hw hL (m+1) hT hf h;have on1:=a2.on.trans ho;obtain⟨b1,b2,b3⟩:=qe2 on1 30 2 (tr2 0 0);have on2:(nwP 30 2 (tr2 0 0) S1).2.on=false:=qfs on1 _;obtain⟨S3,c1,c2,c3,c4⟩:=b1.stA on2 big2 (spT (qcw L T fr_));have on3:=c3.on.trans on2;have g13:Grew (fun _=>False) S1 S3:=b2.own (lR _) c3;have n1:=a2.next
 have g03:Grew (fun z=>S.next<=z) S S3:=a2.trans (g13.mono fun _ _ h=>h.elim);have h3:=h.grew (by omega) (by omega) g03;have hlev:m+(L.length+1)+4=(m+(L.length+1)+3)+1:=by omega
 have key:∀{v U},F8 (ev E0 K (m+(L.length+1)+3)) qa3 (.ptr b 0) (sv T) (.int .i64 (fr_:Int)) S=some (.ret v,U)->(ev E0 K (m+(L.length+1)+4)).f 8 [.ptr b 0,sv T,.int .i64 (fr_:Int)] S=some (.ret v,U):=fun q=>qax (c:=C8) (d:=B8) (by kernel_rfl) (by kernel_rfl) (qa7 C8 _ (by kernel_rfl)) (hK 8 (by decide)) q;have hl14:m+1+(L.length+1)+2=m+(L.length+1)+3:=by omega
 rw[hl14]at a1
 have pre:F8 (ev E0 K (m+(L.length+1)+3)) qa3 (.ptr b 0) (sv T) (.int .i64 (fr_:Int)) S=ifK (.bool (!(qcw L T fr_).isSome)) (some (.ret (.tuple [.nilslice,(.bool false)]),S3)) (
(ldA 2 (.ptr S1.next 0) S3).bind fun p32=>
qad ((ev E0 K (m+(L.length+1)+3)).f 15 [.ptr b 0,sv T,p32.1] p32.2) fun t33 S33=>
some (.ret (.tuple [t33,(.bool true)]),S33)):=by
  rw[F8_eq,nil_b];simp only[oB,qaq,nF,cT,binV_ii,intsV_lss,show decide ((fr_:Int)<0)=false by rw[decide_eq_false_iff_not]; omega,pickV_bool,cF,lnStr_sv,intsV_gtr,show decide ((T.length:Int)<(fr_:Int))=false by rw[decide_eq_false_iff_not]; omega,ifK_bool];rw[a1,callP_ret,qlm,oB,qln,oB,show nwP 30 2 (Tr.ofListFrom .nil [(.int .i64 0),(.int .i64 0)] 0) S1=nwP 30 2 (tr2 0 0) S1 from rfl,qde,c1,oB];dsimp only;rw[unV_not,oB,ifK_bool]
 have hres:=qjo (T:=T) (fr:=fr_) hw hf;cases hwh:qcw L T fr_ with
 | none=>
  rw[hwh]at pre;exact⟨S3,.nilslice,key pre,g03,fun p hp=>by cases hp⟩
 | some q=>
  rw[hwh]at hres pre c2;obtain⟨s0,s1,rfl,k1,k2,_⟩:=hres;have hbd:=R.bnd k1;obtain⟨out,o1,o2,o3⟩:=exp_places he hL (show s1<=1000 by omega) k1 (f:=FU) (by unfold FU; omega);obtain⟨m',hm'⟩:∃m',m+(L.length+1)+3=m'+4:=⟨m+L.length,by omega⟩
  obtain⟨U,x,d1,d2,dx,dx',d3⟩:=places_run hK m' (s0:=s0) (s1:=s1) hw hL hgr hT hbd.2.1 (by omega) o1 h3;have n3:=g03.next
  refine⟨U,.slice x 0 (gr+1) (gr+1),key (pre.trans ?_),g03.trans (d3.mono fun z _ hz=>by omega),fun p hp=>?_⟩
  . rw[ifK_bool,show(!(some ((s0:Int),(s1:Int))).isSome)=false from rfl,cF,c2.ldA on3 big2,oB]
    dsimp only;rw[show spT (some ((s0:Int),(s1:Int)))=tr2 (s0:Int) (s1:Int)from rfl,hm',d1,callP_ret];rfl
  . simp only[oS]at hp
    subst hp;exact⟨x,s0,s1,out,rfl,rfl,d2,dx,by omega,o2,o3,o1⟩
end
open Go.RowKit
theorem works_runs:saysTrue ((ev E0 (fun _=>none) 400).f 9 [] s0)=true:=by decide +kernel
theorem kn9:KnWell Try.prog E0 9 kfTrue:=by
 refine⟨specKF_loc,fun w0 ρ s w args cargs e t hR hv hg=>?_⟩;unfold kfTrue specKF at hg;simp only at hg;by_cases hx:∃x:Unit,([]:List V)=args
 . rw[dif_pos hx]at hg
   simp only[oS,pM]at hg;obtain⟨rfl,rfl⟩:=hg;obtain⟨_,rfl⟩:=hx;obtain⟨l⟩:=cargs;cases hv;exact(closed_walk E0_ok knOk_nil glob0 works_runs w).mono fun ce w' ⟨h1,h2⟩=>⟨ρ,.bool true,h1,Rho.le_refl ρ,.bool true,hR.grown h2⟩
 . rw[dif_neg hx]at hg; cases hg
noncomputable def K1:=knAdd (fun _=>none) 9 kfTrue
theorem ok1:KnOk Try.prog E0 K1:=knOk_nil.add kn9
theorem take_min (l:List UInt8) (n:Nat):List.take (min l.length n) l=l.take n:=by
 rcases Nat.le_total l.length n with h|h
 . rw[Nat.min_eq_left h,List.take_length,List.take_of_length_le h]
 . rw[Nat.min_eq_right h]
theorem cutN (s:List UInt8) (n:Nat) (S:St):qbj E0 9 (sv s) none (some (.int .i64 ((min s.length n:Nat):Int))) none S=some (sv (s.take n),S):=by
 rw[qfj und9 s (bounds_hi .i64 (Nat.min_le_left ..)) (Nat.min_le_left ..),List.drop_zero,Nat.sub_zero,take_min]
theorem qfv:∀f,f≠9->K1 f=none:=fun f h=>by
 unfold K1 knAdd;rw[beq_false.2 h]; rfl
theorem qeb (m:Nat) (S:St):(ev E0 K1 (m+1)).f 9 [] S=some (.ret (.bool true),S):=by
 rw[ev_known (show K1 9=some kfTrue from rfl),kfTrue_run]
theorem neq30 (a e a' e':Int):qa4 E0 .neq 30 false false (.agg 2 (tr2 a e)) (.agg 2 (tr2 a' e'))=(bif iEq a a' then(bif iEq e e' then some true else some false)else some false).bind fun b=>some (.bool (!b)):=by kernel_rfl
theorem neq30_same (a e:Int):qa4 E0 .neq 30 false false (.agg 2 (tr2 a e)) (.agg 2 (tr2 a e))=some (.bool false):=by
 rw[neq30,qe4,qe4,beq_self_eq_true,beq_self_eq_true]; rfl
noncomputable def qix (self:EV) (N:Nat) (nk:Ac->St->Rs) (ek:Nat->Ac->St->Rs) (n:Nat) (v1 v8 v10 v11 v12 v13 t89 t90:V) (S87:St):Rs:=
(qa1 true t90).bind fun g95=>(bif g95 then some t89 else some (.tuple [])).bind fun t95=>
(qa1 true t90).bind fun g96=>(bif g96 then lnS t95 (onS S87)else some (.tuple [],(onS S87))).bind fun p96=>
(qa1 true t90).bind fun g97=>(bif g97 then qa4 E0 .lss 3 false true p96.1 (.int .i64 2)else some (.tuple [])).bind fun t97=>
(qa1 true t90).bind fun g98=>(bif g98 then some t97 else some (.tuple [])).bind fun t98=>
(qa1 false t98).bind fun g99=>(bif g99 then some t89 else some (.tuple [])).bind fun t99=>
(qa1 false t98).bind fun g100=>(bif g100 then ixP 2 t99 (.int .i64 0)else some (.tuple [])).bind fun t100=>
(qa1 false t98).bind fun g101=>(bif g101 then ldA 2 t100 (onS p96.2)else some (.tuple [],(onS p96.2))).bind fun p101=>
(qa1 false t98).bind fun g102=>(bif g102 then some v13 else some (.tuple [])).bind fun t102=>
(qa1 false t98).bind fun g103=>(bif g103 then some v12 else some (.tuple [])).bind fun t103=>
(qa1 false t98).bind fun g104=>(bif g104 then qa4 E0 .sub 3 false false t102 t103 else some (.tuple [])).bind fun t104=>
(qa1 false t98).bind fun g105=>(bif g105 then qau E0 30 [(0,(.int .i64 0)),(1,t104)]else some (.tuple [])).bind fun t105=>
(qa1 false t98).bind fun g106=>(bif g106 then qa4 E0 .neq 30 false false p101.1 t105 else some (.tuple [])).bind fun t106=>
(qa1 true t90).bind fun g107=>(bif g107 then qah t98 (some (.bool true)) (some t106)else some (.tuple [])).bind fun t107=>
(qa1 true t90).bind fun g108=>(bif g108 then some t107 else some (.tuple [])).bind fun t108=>
(qa1 false t108).bind fun g109=>(bif g109 then some t89 else some (.tuple [])).bind fun t109=>
(qa1 false t108).bind fun g110=>(bif g110 then ixP 2 t109 (.int .i64 1)else some (.tuple [])).bind fun t110=>
(qa1 false t108).bind fun g111=>(bif g111 then ldA 2 t110 (onS p101.2)else some (.tuple [],(onS p101.2))).bind fun p111=>
(qa1 false t108).bind fun g112=>(bif g112 then some t89 else some (.tuple [])).bind fun t112=>
(qa1 false t108).bind fun g113=>(bif g113 then ixP 2 t112 (.int .i64 0)else some (.tuple [])).bind fun t113=>
(qa1 false t108).bind fun g114=>(bif g114 then ldA 2 t113 (onS p111.2)else some (.tuple [],(onS p111.2))).bind fun p114=>
(qa1 false t108).bind fun g115=>(bif g115 then qa4 E0 .neq 30 false false p111.1 p114.1 else some (.tuple [])).bind fun t115=>
(qa1 true t90).bind fun g116=>(bif g116 then qah t108 (some (.bool true)) (some t115)else some (.tuple [])).bind fun t116=>
(qah t90 (some t116) (some (.bool false))).bind fun t117=>
qfq [(18,[21])] S87 [[],[],[],p96.2.log,[],[],[],[],p101.2.log,[],[],[],[],[],[],[],[],[],p111.2.log,[],[],p114.2.log,[],[],[]] (onS p114.2) fun S118=>
ifK t117 (
some (.ret (.bool false),S118)) (
(qa1 true t90).bind fun g122=>(bif g122 then some v11 else some (.tuple [])).bind fun t122=>
(qa1 true t90).bind fun g123=>(bif g123 then unV .not t122 else some (.tuple [])).bind fun t123=>
(qa1 true t90).bind fun g124=>(bif g124 then some t123 else some (.tuple [])).bind fun t124=>
(qa1 false t124).bind fun g125=>(bif g125 then some v12 else some (.tuple [])).bind fun t125=>
(qa1 false t124).bind fun g126=>(bif g126 then some v10 else some (.tuple [])).bind fun t126=>
(qa1 false t124).bind fun g127=>(bif g127 then ixP 2 t126 (.int .i64 0)else some (.tuple [])).bind fun t127=>
(qa1 false t124).bind fun g128=>(bif g128 then ixA 2 1 false 1 t127 (.int .i64 0)else some (.tuple [])).bind fun t128=>
(qa1 false t124).bind fun g129=>(bif g129 then ld1 t128 S118 else some (.tuple [],S118)).bind fun p129=>
(qa1 false t124).bind fun g130=>(bif g130 then qa4 E0 .lss 3 false false t125 p129.1 else some (.tuple [])).bind fun t130=>
(qa1 true t90).bind fun g131=>(bif g131 then qah t124 (some (.bool true)) (some t130)else some (.tuple [])).bind fun t131=>
(qa1 true t90).bind fun g132=>(bif g132 then some t131 else some (.tuple [])).bind fun t132=>
(qa1 false t132).bind fun g133=>(bif g133 then some v12 else some (.tuple [])).bind fun t133=>
(qa1 false t132).bind fun g134=>(bif g134 then some v10 else some (.tuple [])).bind fun t134=>
(qa1 false t132).bind fun g135=>(bif g135 then ixP 2 t134 (.int .i64 0)else some (.tuple [])).bind fun t135=>
(qa1 false t132).bind fun g136=>(bif g136 then ixA 2 1 false 1 t135 (.int .i64 0)else some (.tuple [])).bind fun t136=>
(qa1 false t132).bind fun g137=>(bif g137 then ld1 t136 p129.2 else some (.tuple [],p129.2)).bind fun p137=>
(qa1 false t132).bind fun g138=>(bif g138 then qa4 E0 .eql 3 false false t133 p137.1 else some (.tuple [])).bind fun t138=>
(qa1 false t132).bind fun g139=>(bif g139 then some t138 else some (.tuple [])).bind fun t139=>
(qa1 true t139).bind fun g140=>(bif g140 then some v13 else some (.tuple [])).bind fun t140=>
(qa1 true t139).bind fun g141=>(bif g141 then some v10 else some (.tuple [])).bind fun t141=>
(qa1 true t139).bind fun g142=>(bif g142 then ixP 2 t141 (.int .i64 0)else some (.tuple [])).bind fun t142=>
(qa1 true t139).bind fun g143=>(bif g143 then ixA 2 1 false 1 t142 (.int .i64 1)else some (.tuple [])).bind fun t143=>
(qa1 true t139).bind fun g144=>(bif g144 then ld1 t143 p137.2 else some (.tuple [],p137.2)).bind fun p144=>
(qa1 true t139).bind fun g145=>(bif g145 then qa4 E0 .gtr 3 false false t140 p144.1 else some (.tuple [])).bind fun t145=>
(qa1 false t132).bind fun g146=>(bif g146 then qah t139 (some t145) (some (.bool false))else some (.tuple [])).bind fun t146=>
(qa1 true t90).bind fun g147=>(bif g147 then qah t132 (some (.bool true)) (some t146)else some (.tuple [])).bind fun t147=>
(qah t90 (some t147) (some (.bool false))).bind fun t148=>
ifK t148 (
some (.ret (.bool false),p144.2)) (
(qa1 true v11).bind fun g152=>(bif g152 then some v12 else some (.tuple [])).bind fun t152=>
(qa1 true v11).bind fun g153=>(bif g153 then some v10 else some (.tuple [])).bind fun t153=>
(qa1 true v11).bind fun g154=>(bif g154 then ixP 2 t153 (.int .i64 0)else some (.tuple [])).bind fun t154=>
(qa1 true v11).bind fun g155=>(bif g155 then ixA 2 1 false 1 t154 (.int .i64 0)else some (.tuple [])).bind fun t155=>
(qa1 true v11).bind fun g156=>(bif g156 then ld1 t155 p144.2 else some (.tuple [],p144.2)).bind fun p156=>
(qa1 true v11).bind fun g157=>(bif g157 then qa4 E0 .eql 3 false false t152 p156.1 else some (.tuple [])).bind fun t157=>
(qah v11 (some t157) (some (.bool false))).bind fun t158=>
(qa1 true t158).bind fun g160=>(bif g160 then some v13 else some (.tuple [])).bind fun t160=>
(qa1 true t158).bind fun g161=>(bif g161 then some v10 else some (.tuple [])).bind fun t161=>
(qa1 true t158).bind fun g162=>(bif g162 then ixP 2 t161 (.int .i64 0)else some (.tuple [])).bind fun t162=>
(qa1 true t158).bind fun g163=>(bif g163 then ixA 2 1 false 1 t162 (.int .i64 1)else some (.tuple [])).bind fun t163=>
(qa1 true t158).bind fun g164=>(bif g164 then ld1 t163 p156.2 else some (.tuple [],p156.2)).bind fun p164=>
(qa1 true t158).bind fun g165=>(bif g165 then qa4 E0 .eql 3 false false t160 p164.1 else some (.tuple [])).bind fun t165=>
(qah t158 (some t165) (some (.bool false))).bind fun t166=>
(qa1 true t166).bind fun g168=>(bif g168 then some t90 else some (.tuple [])).bind fun t168=>
(qa1 true t166).bind fun g169=>(bif g169 then unV .not t168 else some (.tuple [])).bind fun t169=>
(qah t166 (some t169) (some (.bool false))).bind fun t170=>
ifK t170 (
some (.ret (.bool false),p164.2)) (
(qa4 E0 .add 3 false true v13 (.int .i64 1)).bind fun t173=>
qk4 self N nk ek n v1 v8 v10 v11 v12 t173 p164.2)))
theorem qmk (self:EV) (N:Nat) (nk:Ac->St->Rs) (ek:Nat->Ac->St->Rs) (n:Nat) (v1 v8 v10 v11 v12 v13 t89 t90:V) (S87:St):qix self N nk ek n v1 v8 v10 v11 v12 v13 t89 t90 S87 =
(qa1 true t90).bind fun g95=>(bif g95 then some t89 else some (.tuple [])).bind fun t95=>
(qa1 true t90).bind fun g96=>(bif g96 then lnS t95 (onS S87)else some (.tuple [],(onS S87))).bind fun p96=>
(qa1 true t90).bind fun g97=>(bif g97 then qa4 E0 .lss 3 false true p96.1 (.int .i64 2)else some (.tuple [])).bind fun t97=>
(qa1 true t90).bind fun g98=>(bif g98 then some t97 else some (.tuple [])).bind fun t98=>
(qa1 false t98).bind fun g99=>(bif g99 then some t89 else some (.tuple [])).bind fun t99=>
(qa1 false t98).bind fun g100=>(bif g100 then ixP 2 t99 (.int .i64 0)else some (.tuple [])).bind fun t100=>
(qa1 false t98).bind fun g101=>(bif g101 then ldA 2 t100 (onS p96.2)else some (.tuple [],(onS p96.2))).bind fun p101=>
(qa1 false t98).bind fun g102=>(bif g102 then some v13 else some (.tuple [])).bind fun t102=>
(qa1 false t98).bind fun g103=>(bif g103 then some v12 else some (.tuple [])).bind fun t103=>
(qa1 false t98).bind fun g104=>(bif g104 then qa4 E0 .sub 3 false false t102 t103 else some (.tuple [])).bind fun t104=>
(qa1 false t98).bind fun g105=>(bif g105 then qau E0 30 [(0,(.int .i64 0)),(1,t104)]else some (.tuple [])).bind fun t105=>
(qa1 false t98).bind fun g106=>(bif g106 then qa4 E0 .neq 30 false false p101.1 t105 else some (.tuple [])).bind fun t106=>
(qa1 true t90).bind fun g107=>(bif g107 then qah t98 (some (.bool true)) (some t106)else some (.tuple [])).bind fun t107=>
(qa1 true t90).bind fun g108=>(bif g108 then some t107 else some (.tuple [])).bind fun t108=>
(qa1 false t108).bind fun g109=>(bif g109 then some t89 else some (.tuple [])).bind fun t109=>
(qa1 false t108).bind fun g110=>(bif g110 then ixP 2 t109 (.int .i64 1)else some (.tuple [])).bind fun t110=>
(qa1 false t108).bind fun g111=>(bif g111 then ldA 2 t110 (onS p101.2)else some (.tuple [],(onS p101.2))).bind fun p111=>
(qa1 false t108).bind fun g112=>(bif g112 then some t89 else some (.tuple [])).bind fun t112=>
(qa1 false t108).bind fun g113=>(bif g113 then ixP 2 t112 (.int .i64 0)else some (.tuple [])).bind fun t113=>
(qa1 false t108).bind fun g114=>(bif g114 then ldA 2 t113 (onS p111.2)else some (.tuple [],(onS p111.2))).bind fun p114=>
(qa1 false t108).bind fun g115=>(bif g115 then qa4 E0 .neq 30 false false p111.1 p114.1 else some (.tuple [])).bind fun t115=>
(qa1 true t90).bind fun g116=>(bif g116 then qah t108 (some (.bool true)) (some t115)else some (.tuple [])).bind fun t116=>
(qah t90 (some t116) (some (.bool false))).bind fun t117=>
qfq [(18,[21])] S87 [[],[],[],p96.2.log,[],[],[],[],p101.2.log,[],[],[],[],[],[],[],[],[],p111.2.log,[],[],p114.2.log,[],[],[]] (onS p114.2) fun S118=>
ifK t117 (
some (.ret (.bool false),S118)) (
(qa1 true t90).bind fun g122=>(bif g122 then some v11 else some (.tuple [])).bind fun t122=>
(qa1 true t90).bind fun g123=>(bif g123 then unV .not t122 else some (.tuple [])).bind fun t123=>
(qa1 true t90).bind fun g124=>(bif g124 then some t123 else some (.tuple [])).bind fun t124=>
(qa1 false t124).bind fun g125=>(bif g125 then some v12 else some (.tuple [])).bind fun t125=>
(qa1 false t124).bind fun g126=>(bif g126 then some v10 else some (.tuple [])).bind fun t126=>
(qa1 false t124).bind fun g127=>(bif g127 then ixP 2 t126 (.int .i64 0)else some (.tuple [])).bind fun t127=>
(qa1 false t124).bind fun g128=>(bif g128 then ixA 2 1 false 1 t127 (.int .i64 0)else some (.tuple [])).bind fun t128=>
(qa1 false t124).bind fun g129=>(bif g129 then ld1 t128 S118 else some (.tuple [],S118)).bind fun p129=>
(qa1 false t124).bind fun g130=>(bif g130 then qa4 E0 .lss 3 false false t125 p129.1 else some (.tuple [])).bind fun t130=>
(qa1 true t90).bind fun g131=>(bif g131 then qah t124 (some (.bool true)) (some t130)else some (.tuple [])).bind fun t131=>
(qa1 true t90).bind fun g132=>(bif g132 then some t131 else some (.tuple [])).bind fun t132=>
(qa1 false t132).bind fun g133=>(bif g133 then some v12 else some (.tuple [])).bind fun t133=>
(qa1 false t132).bind fun g134=>(bif g134 then some v10 else some (.tuple [])).bind fun t134=>
(qa1 false t132).bind fun g135=>(bif g135 then ixP 2 t134 (.int .i64 0)else some (.tuple [])).bind fun t135=>
(qa1 false t132).bind fun g136=>(bif g136 then ixA 2 1 false 1 t135 (.int .i64 0)else some (.tuple [])).bind fun t136=>
(qa1 false t132).bind fun g137=>(bif g137 then ld1 t136 p129.2 else some (.tuple [],p129.2)).bind fun p137=>
(qa1 false t132).bind fun g138=>(bif g138 then qa4 E0 .eql 3 false false t133 p137.1 else some (.tuple [])).bind fun t138=>
(qa1 false t132).bind fun g139=>(bif g139 then some t138 else some (.tuple [])).bind fun t139=>
(qa1 true t139).bind fun g140=>(bif g140 then some v13 else some (.tuple [])).bind fun t140=>
(qa1 true t139).bind fun g141=>(bif g141 then some v10 else some (.tuple [])).bind fun t141=>
(qa1 true t139).bind fun g142=>(bif g142 then ixP 2 t141 (.int .i64 0)else some (.tuple [])).bind fun t142=>
(qa1 true t139).bind fun g143=>(bif g143 then ixA 2 1 false 1 t142 (.int .i64 1)else some (.tuple [])).bind fun t143=>
(qa1 true t139).bind fun g144=>(bif g144 then ld1 t143 p137.2 else some (.tuple [],p137.2)).bind fun p144=>
(qa1 true t139).bind fun g145=>(bif g145 then qa4 E0 .gtr 3 false false t140 p144.1 else some (.tuple [])).bind fun t145=>
(qa1 false t132).bind fun g146=>(bif g146 then qah t139 (some t145) (some (.bool false))else some (.tuple [])).bind fun t146=>
(qa1 true t90).bind fun g147=>(bif g147 then qah t132 (some (.bool true)) (some t146)else some (.tuple [])).bind fun t147=>
(qah t90 (some t147) (some (.bool false))).bind fun t148=>
ifK t148 (
some (.ret (.bool false),p144.2)) (
(qa1 true v11).bind fun g152=>(bif g152 then some v12 else some (.tuple [])).bind fun t152=>
(qa1 true v11).bind fun g153=>(bif g153 then some v10 else some (.tuple [])).bind fun t153=>
(qa1 true v11).bind fun g154=>(bif g154 then ixP 2 t153 (.int .i64 0)else some (.tuple [])).bind fun t154=>
(qa1 true v11).bind fun g155=>(bif g155 then ixA 2 1 false 1 t154 (.int .i64 0)else some (.tuple [])).bind fun t155=>
(qa1 true v11).bind fun g156=>(bif g156 then ld1 t155 p144.2 else some (.tuple [],p144.2)).bind fun p156=>
(qa1 true v11).bind fun g157=>(bif g157 then qa4 E0 .eql 3 false false t152 p156.1 else some (.tuple [])).bind fun t157=>
(qah v11 (some t157) (some (.bool false))).bind fun t158=>
(qa1 true t158).bind fun g160=>(bif g160 then some v13 else some (.tuple [])).bind fun t160=>
(qa1 true t158).bind fun g161=>(bif g161 then some v10 else some (.tuple [])).bind fun t161=>
(qa1 true t158).bind fun g162=>(bif g162 then ixP 2 t161 (.int .i64 0)else some (.tuple [])).bind fun t162=>
(qa1 true t158).bind fun g163=>(bif g163 then ixA 2 1 false 1 t162 (.int .i64 1)else some (.tuple [])).bind fun t163=>
(qa1 true t158).bind fun g164=>(bif g164 then ld1 t163 p156.2 else some (.tuple [],p156.2)).bind fun p164=>
(qa1 true t158).bind fun g165=>(bif g165 then qa4 E0 .eql 3 false false t160 p164.1 else some (.tuple [])).bind fun t165=>
(qah t158 (some t165) (some (.bool false))).bind fun t166=>
(qa1 true t166).bind fun g168=>(bif g168 then some t90 else some (.tuple [])).bind fun t168=>
(qa1 true t166).bind fun g169=>(bif g169 then unV .not t168 else some (.tuple [])).bind fun t169=>
(qah t166 (some t169) (some (.bool false))).bind fun t170=>
ifK t170 (
some (.ret (.bool false),p164.2)) (
(qa4 E0 .add 3 false true v13 (.int .i64 1)).bind fun t173=>
qk4 self N nk ek n v1 v8 v10 v11 v12 t173 p164.2))):=rfl
theorem L4_77_t (self:EV) (N:Nat) (nk:Ac->St->Rs) (ek:Nat->Ac->St->Rs) (n:Nat) ( v1 v8 v10 v11 v12 v13:V) (S:St):qk4 self N nk ek (n+1) v1 v8 v10 v11 v12 v13 S =
(qbu v1 S).bind fun p80=>
(qa4 E0 .leq 3 false false v13 p80.1).bind fun t81=>
ifK t81 (
(qbj E0 9 v1 (some v12) (some v13) none p80.2).bind fun p86=>
qad (self.f 8 [v8,p86.1,(.int .i64 0)] p86.2) fun t87 S87=>
(qaj t87 0).bind fun t89=>
(qaj t87 1).bind fun t90=>
qix self N nk ek n v1 v8 v10 v11 v12 v13 t89 t90 S87) (
ek 4 (fr 182 [(1,v1),(8,v8),(10,v10),(11,v11),(12,v12)]) p80.2):=L4_77_eq self N nk ek n v1 v8 v10 v11 v12 v13 S
section
variable {S:St}
theorem out_ldA (ho:S.on=false) {x:Nat} {out:List (Int×Int)} (h:RowAt S x 30 2 (qgb out)) {i:Nat} {p:Int×Int} (hi:out[i]?=some p):ldA 2 (.ptr x (i*2)) S=some (.agg 2 (tr2 p.1 p.2),S):=by
 have:=h.ldK ho (i:=i) (t:=tr2 p.1 p.2) (by unfold qgb; rw[List.getElem?_map,hi]; rfl);show(ldK S x (i*2) 2).bind _=_;rw[this,oB]
theorem out_ld (ho:S.on=false) {x:Nat} {out:List (Int×Int)} (h:RowAt S x 30 2 (qgb out)) {p:Int×Int} (hi:out[0]?=some p) {j:Nat} {v:V} (hj:j<2) (hv:(tr2 p.1 p.2).get j=some v):ld1 (.ptr x j) S=some (v,S):=by
 obtain⟨c,h1,h2⟩:=h.row;have hlt:=(List.getElem?_eq_some_iff.1 hi).1;have hln:(qgb out).length=out.length:=by unfold qgb; rw[lM]
 have hfit:=h.fit;have hget:=h2 0 (tr2 p.1 p.2) (by unfold qgb; rw[List.getElem?_map,hi]; rfl);show ld S x j=_;unfold ld;rw[h1];simp only;rw[blt_true.2 (show j<2*(qgb out).length by omega),blt_true.2 hfit,Bool.and_self,cT,show j/2=0 by omega,show j%2=j by omega,hget,oB,hv,oB,qb6 ho]
variable {T:List UInt8} {X:List AS}
set_option maxRecDepth 10000 in
theorem rest_nn (self:EV) (N:Nat) (nk:Ac->St->Rs) (ek:Nat->Ac->St->Rs) (n:Nat) (ho:S.on=false) (v1 v8 v10 t89:V) (a b:Nat) (hb:b<=1000):qix self N nk ek n v1 v8 v10 (.bool false) (.int .i64 (a:Int)) (.int .i64 (b:Int)) t89 (.bool false) S=qk4 self N nk ek n v1 v8 v10 (.bool false) (.int .i64 (a:Int)) (.int .i64 ((b+1:Nat):Int)) S:=by
 rw[qmk];simp only[qaa,qaq,qas,oB,cF,pickV_bool,qb7];rw[qbp (by rfl),qam ho,ifK_bool,cF,ifK_bool,cF,ifK_bool,cF,binV_ii,intsV_add,qa5 (by omega),oB]
set_option maxRecDepth 10000 in
theorem rest_sn (self:EV) (N:Nat) (nk:Ac->St->Rs) (ek:Nat->Ac->St->Rs) (n:Nat) (ho:S.on=false) (v1 v8 t89:V) (a b s0 s1 g:Nat) (hb:b<=1000) {x:Nat} {out:List (Int×Int)} (hx:RowAt S x 30 2 (qgb out)) (h0:out[0]?=some ((s0:Int),(s1:Int))) (hne:¬(a=s0/\b=s1)):qix self N nk ek n v1 v8 (.slice x 0 (g+1) (g+1)) (.bool true) (.int .i64 (a:Int)) (.int .i64 (b:Int)) t89 (.bool false) S=qk4 self N nk ek n v1 v8 (.slice x 0 (g+1) (g+1)) (.bool true) (.int .i64 (a:Int)) (.int .i64 ((b+1:Nat):Int)) S:=by
 have l0:=out_ld ho hx h0 (j:=0) (v:=.int .i64 (s0:Int)) (by decide) rfl;have l1:=out_ld ho hx h0 (j:=1) (v:=.int .i64 (s1:Int)) (by decide) rfl;have i0:ixP 2 (.slice x 0 (g+1) (g+1)) (.int .i64 0)=some (.ptr x 0):=rfl;have j0:ixA 2 1 false 1 (.ptr x 0) (.int .i64 0)=some (.ptr x 0):=rfl;have j1:ixA 2 1 false 1 (.ptr x 0) (.int .i64 1)=some (.ptr x 1):=rfl;rw[qmk];simp only[qaa,qaq,qas,oB,cF,pickV_bool,qb7];rw[qbp (by rfl),qam ho,ifK_bool,cF,ifK_bool,cF];simp only[oB,cT,i0,j0,l0,binV_ii,intsV_eql,pickV_bool,qaa];by_cases e0:a=s0
 . have e1:¬b=s1:=fun h=>hne ⟨e0,h⟩
   rw[show decide ((a:Int)=(s0:Int))=true by rw[decide_eq_true_eq]; omega];simp only[oB,cT,i0,j1,l1,binV_ii,intsV_eql,pickV_bool,qaa];rw[show decide ((b:Int)=(s1:Int))=false by rw[decide_eq_false_iff_not]; omega];simp only[qaa,qas,oB,cF,pickV_bool];rw[ifK_bool,cF,intsV_add,qa5 (by omega),oB]
 . rw[show decide ((a:Int)=(s0:Int))=false by rw[decide_eq_false_iff_not]; omega]
   simp only[qaa,qas,oB,cF,pickV_bool];rw[ifK_bool,cF,intsV_add,qa5 (by omega),oB]
set_option maxRecDepth 10000 in
theorem rest_ss (self:EV) (N:Nat) (nk:Ac->St->Rs) (ek:Nat->Ac->St->Rs) (n:Nat) (ho:S.on=false) (v1 v8:V) (a b s0 s1 g g':Nat) (hab:a<=b) (hb:b<=1000) (hg':1<=g') {x y:Nat} {out out':List (Int×Int)} (hx:RowAt S x 30 2 (qgb out)) (h0:out[0]?=some ((s0:Int),(s1:Int))) (hy:RowAt S y 30 2 (qgb out')) (h0':out'[0]?=some (((0:Nat):Int),((b-a:Nat):Int))) (h1':out'[1]?=some (((0:Nat):Int),((b-a:Nat):Int))) (hle:s0<=a) (hlt:a=s0->b<=s1):qix self N nk ek n v1 v8 (.slice x 0 (g+1) (g+1)) (.bool true) (.int .i64 (a:Int)) (.int .i64 (b:Int)) (.slice y 0 (g'+1) (g'+1)) (.bool true) S=qk4 self N nk ek n v1 v8 (.slice x 0 (g+1) (g+1)) (.bool true) (.int .i64 (a:Int)) (.int .i64 ((b+1:Nat):Int)) S:=by
 have l0:=out_ld ho hx h0 (j:=0) (v:=.int .i64 (s0:Int)) (by decide) rfl;have l1:=out_ld ho hx h0 (j:=1) (v:=.int .i64 (s1:Int)) (by decide) rfl;have m0:=fun l=>ldA_lg ho (out_ldA ho hy h0') l;have m1:=fun l=>ldA_lg ho (out_ldA ho hy h1') l;rw[Nat.zero_mul]at m0;rw[Nat.one_mul]at m1;have i0:ixP 2 (.slice x 0 (g+1) (g+1)) (.int .i64 0)=some (.ptr x 0):=rfl;have k0:ixP 2 (.slice y 0 (g'+1) (g'+1)) (.int .i64 0)=some (.ptr y 0):=rfl
 have k1:ixP 2 (.slice y 0 (g'+1) (g'+1)) (.int .i64 1)=some (.ptr y 2):=by
  have:=ixP2 y (g'+1) 1 (by omega);exact this
 have j0:ixA 2 1 false 1 (.ptr x 0) (.int .i64 0)=some (.ptr x 0):=rfl;have j1:ixA 2 1 false 1 (.ptr x 0) (.int .i64 1)=some (.ptr x 1):=rfl;have hsub:IntKind.i64.wrap ((b:Int)-(a:Int))=((b-a:Nat):Int):=by rw[qap (by omega) (by omega)]; omega
 have hlen:decide (((g'+1:Nat):Int)<2)=false:=by rw[decide_eq_false_iff_not]; omega
 have on_:∀(l:List LE),onS (S.lg l)=S.lg []:=fun _=>rfl;have on0:onS S=S.lg []:=rfl;have hn:=neq30_same ((0:Nat):Int) ((b-a:Nat):Int);rw[qmk];simp only[qaa,oB,cT,lnS_sl,binV_ii,intsV_lss,hlen,qaq,nF,k0,on0,on_,m0,intsV_sub,hsub];have hn0:qa4 E0 .neq 30 false false (.agg 2 (tr2 ((0:Nat):Int) ((b-a:Nat):Int))) (.agg 2 (tr2 0 ((b-a:Nat):Int)))=some (.bool false):=hn;rw[build_30,oB,hn0,oB];simp only[pickV_bool,cF,oB,qaq,nF,cT,k1,k0,m1,m0,on_,hn];rw[qbp (by rfl),show S.lg []=onS S from rfl,qam ho,ifK_bool,cF];simp only[oB,unV_not,Bool.not_true,qaq,nF,cT,i0,j0,l0,binV_ii,intsV_lss,pickV_bool,cF];rw[show decide ((a:Int)<(s0:Int))=false by rw[decide_eq_false_iff_not]; omega];simp only[qaq,nF,oB,cT,i0,j0,l0,binV_ii,intsV_eql,pickV_bool,cF];by_cases e0:a=s0
 . have hb1:=hlt e0
   rw[show decide ((a:Int)=(s0:Int))=true by rw[decide_eq_true_eq]; omega];simp only[qaa,oB,cT,i0,j1,l1,binV_ii,intsV_gtr,pickV_bool];rw[show decide ((s1:Int)<(b:Int))=false by rw[decide_eq_false_iff_not]; omega,ifK_bool,cF,l0,oB];dsimp only;rw[binV_ii,intsV_eql,oB,show decide ((a:Int)=(s0:Int))=true by rw[decide_eq_true_eq]; omega];simp only[qaa,oB,cT,i0,j1,l1,binV_ii,intsV_eql,pickV_bool];cases decide ((b:Int)=(s1:Int))with
   | true=>
    simp only[qaa,oB,cT,unV_not,Bool.not_true,pickV_bool];rw[ifK_bool,cF,intsV_add,qa5 (by omega),oB]
   | false=>
    simp only[qaa,qas,oB,cF,pickV_bool];rw[ifK_bool,cF,intsV_add,qa5 (by omega),oB]
 . rw[show decide ((a:Int)=(s0:Int))=false by rw[decide_eq_false_iff_not]; omega]
   simp only[qaa,qas,oB,cF,pickV_bool,cT];rw[ifK_bool,cF,l0,oB];dsimp only;rw[binV_ii,intsV_eql,oB,show decide ((a:Int)=(s0:Int))=false by rw[decide_eq_false_iff_not]; omega];simp only[qaa,qas,oB,cF,pickV_bool];rw[ifK_bool,cF,intsV_add,qa5 (by omega),oB]
end
structure Law (X:List AS) (g:Nat) (T:List UInt8):Prop where
 ex:Exp (X++[stA 6 0]) g
 exA:Exp (qd9 X) (g+1)
 hX:∀x∈X,x.kind≠1/\x.kind≠2/\x.kind≠6/\(x.kind=5->2<=x.to_)/\(x.kind=3\/x.kind=4->x.to_<=X.length)
 len:X.length<=900
 g80:g<=80
 hT:T.length<=100
structure Hd (S:St) (N0 b2 r2:Nat) (ts2:List (Tr V)) (X:List AS) (g:Nat) (T:List UInt8) (v10:V) (is:Bool):Prop where
 rg:Rg (g+1) S b2 r2 (qd9 X) ts2
 hb:b2<N0
 hr:r2<N0
 hN:N0<=S.next
 fn:qcw (X++[stA 6 0]) T 0=none->is=false
 fs:∀p,qcw (X++[stA 6 0]) T 0=some p->is=true/\∃(x s0 s1:Nat) (out:List (Int×Int)),p=((s0:Int),(s1:Int))/\v10=.slice x 0 (g+1) (g+1)/\RowAt S x 30 2 (qgb out)/\x<N0/\out[0]?=some p
section
variable {S:St} {N0 b2 r2 g:Nat} {ts2:List (Tr V)} {X:List AS} {T:List UInt8} {v10:V} {is:Bool}
theorem Hd.grew {U:St} (h:Hd S N0 b2 r2 ts2 X g T v10 is) (gr:Grew (fun z=>S.next<=z) S U):Hd U N0 b2 r2 ts2 X g T v10 is:=by
 have hN:=h.hN;have hb:=h.hb;have hr:=h.hr;refine⟨h.rg.grew (by omega) (by omega) gr,hb,hr,Nat.le_trans hN gr.next,h.fn,fun p hp=>?_⟩;obtain⟨h1,x,s0,s1,out,h2,h3,h4,h5,h6⟩:=h.fs p hp;exact⟨h1,x,s0,s1,out,h2,h3,h4.grew (by omega) (by omega) gr,h5,h6⟩
theorem L77_spec {K:FuncId->Option KF} (hK:∀f,f≠9->K f=none) (hl:Law X g T) (m N:Nat) (nk:Ac->St->Rs) (ek:Nat->Ac->St->Rs) (a:Nat) :
 ∀(d b f:Nat) (S:St),d+b=T.length+1->a<=b->Hd S N0 b2 r2 ts2 X g T v10 is->d<f->
 ∃U,qk4 (ev E0 K (m+((qd9 X).length+1)+4)) N nk ek f (sv T) (.ptr b2 0) v10 (.bool is) (.int .i64 (a:Int)) (.int .i64 (b:Int)) S=ek 4 (fr 182 [(1,sv T),(8,.ptr b2 0),(10,v10),(11,.bool is),(12,.int .i64 (a:Int))]) U/\Hd U N0 b2 r2 ts2 X g T v10 is
 | d,b,0,S,_,_,_,hf=>by omega
 | 0,b,f+1,S,hd,hab,h,hf=>by
  refine⟨S,?_,h⟩;rw[L4_77_t,lnStr_sv,oB];dsimp only;rw[binV_ii,intsV_leq,show decide ((b:Int)<=(T.length:Int))=false by rw[decide_eq_false_iff_not]; omega,oB,ifK_bool,cF]
 | d+1,b,f+1,S,hd,hab,h,hf=>by
  have hT:=hl.hT;have hbT:b<=T.length:=by omega
  have hlen:=hl.len;have hla:=qf8 (X:=X);have hpl:=qis (T:=T) (a:=a) (b:=b) hbT;have hX2:∀x∈X,x.kind≠1/\x.kind≠2:=fun x hx=>⟨(hl.hX x hx).1,(hl.hX x hx).2.1⟩
  obtain⟨S1,v,a1,a2,a3⟩:=find_run hK m (T:=part T a b) (fr_:=0) hl.exA (by omega) (by have:=hl.g80; omega) (by omega) (Nat.zero_le _) h.rg;have h1:=h.grew a2;have on1:=h1.rg.on
  have step:qk4 (ev E0 K (m+((qd9 X).length+1)+4)) N nk ek (f+1) (sv T) (.ptr b2 0) v10 (.bool is) (.int .i64 (a:Int)) (.int .i64 (b:Int)) S=qix (ev E0 K (m+((qd9 X).length+1)+4)) N nk ek f (sv T) (.ptr b2 0) v10 (.bool is) (.int .i64 (a:Int)) (.int .i64 (b:Int)) v (.bool (qcw (qd9 X) (part T a b) 0).isSome) S1:=by
   rw[L4_77_t,lnStr_sv,oB];dsimp only;rw[binV_ii,intsV_leq,show decide ((b:Int)<=(T.length:Int))=true by rw[decide_eq_true_eq]; omega,oB,ifK_bool,cT,qfj und9 T (ql6 .i64 .i64 hab hbT) hbT,oB];dsimp only;rw[show(T.drop a).take (b-a)=part T a b from rfl];rw[show((0:Nat):Int)=0 from rfl]at a1;rw[a1,callP_ret,qlm,qln,oB,oB]
  have fin:qix (ev E0 K (m+((qd9 X).length+1)+4)) N nk ek f (sv T) (.ptr b2 0) v10 (.bool is) (.int .i64 (a:Int)) (.int .i64 (b:Int)) v (.bool (qcw (qd9 X) (part T a b) 0).isSome) S1=qk4 (ev E0 K (m+((qd9 X).length+1)+4)) N nk ek f (sv T) (.ptr b2 0) v10 (.bool is) (.int .i64 (a:Int)) (.int .i64 ((b+1:Nat):Int)) S1:=by
   have hres:=qjo (T:=T) (fr:=0) hl.ex.wf (Nat.zero_le _);rcases all_res (T:=T) (a:=a) (b:=b) hX2 hl.ex.wf hl.exA.wf hab hbT with⟨e1,e2⟩|⟨e1,e2,e3⟩
   . rw[e1]
     show qix _ N nk ek f (sv T) (.ptr b2 0) v10 (.bool is) (.int .i64 (a:Int)) (.int .i64 (b:Int)) v (.bool false) S1=_;cases hw:qcw (X++[stA 6 0]) T 0 with
     | none=>
      rw[h1.fn hw];exact rest_nn _ N nk ek f on1 _ _ _ _ a b (by omega)
     | some p=>
      obtain⟨rfl,x,s0,s1,out,rfl,rfl,q3,q4,q5⟩:=h1.fs p hw;refine rest_sn _ N nk ek f on1 _ _ _ a b s0 s1 g (by omega) q3 q5 fun⟨k1,k2⟩=>e2 ?_;rw[hw]at hres;obtain⟨b',e',r1,r2,_⟩:=hres;simp only[pM]at r1;rw[show a=b' by omega,show b=e' by omega];exact r2
   . obtain⟨y,t0,t1,out',r1,rfl,r3,r4,r5,r6,r7,r8⟩:=a3 _ e1
     simp only[pM]at r1;obtain rfl:t0=0:=by omega
     obtain rfl:t1=b-a:=by omega
     obtain⟨out2,o1,o2,o3,o4⟩:=all_places (X:=X) (T:=part T a b) (s1:=b-a) (g:=g+1) hl.exA hl.hX (by omega) (by omega) (by omega) hpl e3 (f:=FU) (by unfold FU; omega);rw[o1,oS]at r8;subst r8;rw[e1];show qix _ N nk ek f (sv T) (.ptr b2 0) v10 (.bool is) (.int .i64 (a:Int)) (.int .i64 (b:Int)) _ (.bool true) S1=_;cases hw:qcw (X++[stA 6 0]) T 0 with
     | none=>
      rw[hw]at hres;exact absurd e2 (hres a b (by omega))
     | some p=>
      obtain⟨rfl,x,s0,s1,out,rfl,rfl,q3,q4,q5⟩:=h1.fs p hw;rw[hw]at hres;obtain⟨b',e',r1',r2',_,r4'⟩:=hres;simp only[pM]at r1';have h8:=r4' a b (by omega) e2;exact rest_ss _ N nk ek f on1 _ _ a b s0 s1 g (g+1) hab (by omega) (by omega) q3 q5 r3 o3 o4 (by omega) (fun e=>by have:=h8.2 (by omega); omega)
  obtain⟨U,u1,u2⟩:=L77_spec hK hl m N nk ek a d (b+1) f S1 (by omega) (by omega) h1 (by omega);exact⟨U,step.trans (fin.trans u1),u2⟩
theorem L66_spec {K:FuncId->Option KF} (hK:∀f,f≠9->K f=none) (hl:Law X g T) (m N:Nat) (hN:200<N) (nk:Ac->St->Rs) (ek:Nat->Ac->St->Rs) :
 ∀(d a f:Nat) (S:St),d+a=T.length+1->Hd S N0 b2 r2 ts2 X g T v10 is->d<f->
 ∃U,L4_66 (ev E0 K (m+((qd9 X).length+1)+4)) N nk ek f (sv T) (.ptr b2 0) v10 (.bool is) (.int .i64 (a:Int)) S=ek 2 (fr 182 []) U
 | d,a,0,S,_,_,hf=>by omega
 | 0,a,f+1,S,hd,h,hf=>by
  refine⟨S,?_⟩;rw[L4_66_eq,lnStr_sv,oB];dsimp only;rw[binV_ii,intsV_leq,show decide ((a:Int)<=(T.length:Int))=false by rw[decide_eq_false_iff_not]; omega,oB,ifK_bool,cF]
 | d+1,a,f+1,S,hd,h,hf=>by
  have hT:=hl.hT;obtain⟨S1,a1,a2⟩:=L77_spec hK hl m N (R4_71 (ev E0 K (m+((qd9 X).length+1)+4)) N (N4_66 (ev E0 K (m+((qd9 X).length+1)+4)) N nk ek f) ek) (exB 4 (R4_71 (ev E0 K (m+((qd9 X).length+1)+4)) N (N4_66 (ev E0 K (m+((qd9 X).length+1)+4)) N nk ek f) ek) (exB 3 (R4_71 (ev E0 K (m+((qd9 X).length+1)+4)) N (N4_66 (ev E0 K (m+((qd9 X).length+1)+4)) N nk ek f) ek) ek)) a (d+1) a N S hd (lR _) h (by omega);obtain⟨U,b1⟩:=L66_spec hK hl m N hN nk ek d (a+1) f S1 (by omega) a2 (by omega);refine⟨U,?_⟩;rw[L4_66_eq,lnStr_sv,oB];dsimp only;rw[binV_ii,intsV_leq,show decide ((a:Int)<=(T.length:Int))=true by rw[decide_eq_true_eq]; omega,oB,ifK_bool,cT,a1,exB_same,R4_71_eq,binV_ii,intsV_add,qa5 (by omega),oB,N4_66_eq,b1]
end
end Go.Proofs.Ytachpdpmoihjmaa.W
