/-
  WHAT THE FUNCTIONS COME TO: each is read by the evaluator,printed,and told as a function of data,part 17 of 17 (no condition).
-/
import Derived.Test.YtafbipadnnmccaaDoorW16
namespace Go.Proofs.YtafbipadnnmccaaDoor.W
open Go.Proofs.YtafbipadnnmccaaDoor.Ev Go.RowKit
section
variable {S U T:St}
theorem keep29 (ho:S.on=false) (F:Tr V) (k:V->St->Rs):∃U,((some (nwP 29 2 (qb6 0 0) S)).bind fun p19=>(stP 2 p19.1 (.agg 2 F) p19.2).bind fun p21=>(ldA 2 p19.1 p21.2).bind fun p23=>k p23.1 p23.2)=k (.agg 2 F) U/\Grew (fun x=>S.next<=x) S U:=by
 obtain⟨a1,a2,a3⟩:=qar ho 29 2 (qb6 0 0);have o1:=a2.on.trans ho;obtain⟨U,b1,b2,b3,b4⟩:=a1.stA o1 qda F;refine⟨U,?_,(a2.mono fun x _ h=>h.elim).trans (b3.mono fun x _ h=>by omega)⟩;rw[b_s,qan,b1,b_s];dsimp only;rw[b2.ldA (b3.on.trans o1) qda,b_s]
theorem cuts_run (d:Nat) (hd:92000<=d) (s:Bs) (ho:S.on=false) (hH:Hd S):∃U,(ev E0 KX (d+41)).f 3 [sv s] S=some (.ret (.bool true),U)/\Grew (fun _=>False) S U:=by
 have hml:min s.length 4100<=s.length:=Nat.min_le_left ..;have htl:(s.take (min s.length 4100)).length<=4100:=by rw[List.length_take]; omega
 generalize hE0:F3 (ev E0 KX (d+40)) qa3 (sv s) S=R;have hE:=hE0;rw[F3_eq,qfm,b_s]at hE;dsimp only at hE;rw[show(V.int .i64 4100)=.int .i64 ((4100:Nat):Int)from rfl,minL,b_s]at hE;dsimp only at hE;rw[qap qij s (qgf .i64 hml) hml,b_s,List.drop_zero,Nat.sub_zero]at hE;dsimp only at hE;generalize s.take (min s.length 4100)=t at *;have h8:=lex_run refX (d+19) t ho (by omega) (by omega)
 suffices hq:∃U,R=some (.ret (.bool true),U)/\Grew (fun _=>False) S U by
  obtain⟨U,h1,h2⟩:=hq;exact⟨U,rv3 refX (hE0.trans h1),h2⟩
 cases hA:qin t with
 | ok toks=>
  rw[hA]at h8;obtain⟨U1,v,rT,r1,r2,r3,r4,r5⟩:=h8;have o1:=r5.on.trans ho;have h9:=lexd_run refX (d+37) t o1 (by omega) (by omega);rw[hA]at h9;obtain⟨U2,v',rT',q1,q2,q3,q4,q5⟩:=h9;have o2:=q5.on.trans o1
  obtain⟨U3,k1,k2⟩:=keep29 o2 (qb6 0 0) fun p23 X=>callP ((ev E0 KX (d+40)).f 10 [.niliface,p23] X) fun t24 S24=>
   (qa0 true t24).bind fun g26=>(bif g26 then some v else some (.tuple [])).bind fun t26=>
   (qa0 true t24).bind fun g27=>(bif g27 then some v' else some (.tuple [])).bind fun t27=>
   (qa0 true t24).bind fun g28=>callP (bif g28 then(ev E0 KX (d+40)).f 11 [t26,t27] S24 else some (.ret (.tuple []),S24)) fun t28 S28=>
   (qac t24 (some t28) (some (.bool false))).bind fun t29=>
   (qa0 true t29).bind fun g31=>callP (bif g31 then(ev E0 KX (d+40)).f 12 [] S28 else some (.ret (.tuple []),S28)) fun t31 S31=>
   (qac t29 (some t31) (some (.bool false))).bind fun t32=>
   some (.ret t32,S31)
  have o3:=k2.on.trans o2;obtain⟨U4,t1,t2⟩:=told_ok knX (d+39) o3 0;have o4:=t2.on.trans o3;have nx1:=r5.next
  have nx2:=q5.next
  have g1:Grew (fun x=>U1.next<=x) U1 U4:=q5.trans ((k2.mono fun x _ h=>by omega).trans (t2.mono fun x _ h=>h.elim));have g2:Grew (fun x=>U2.next<=x) U2 U4:=k2.trans (t2.mono fun x _ h=>h.elim);have vV:RV U4 v 39 5 rT:=r2.grew (fun r hr hw=>by have:=r2.blk_lt hr; omega) g1;have vT:TksAt U4 (fun x=>S.next<=x/\x<U1.next) toks rT:=r3.grew g1 fun x hx hw=>by omega
  have vV':RV U4 v' 39 5 rT':=q2.grew (fun r hr hw=>by have:=q2.blk_lt hr; omega) g2;have vT':TksAt U4 (fun x=>U1.next<=x/\x<U2.next) toks rT':=q3.grew g2 fun x hx hw=>by omega
  have hsm:=same_run (S:=U4) refX lgX (d+16) 22 o4 vV vT vV' vT' (lexA_dep hA);have g4:Grew (fun _=>False) S U4:=qfd (r5.trans (g1.mono fun x _ h=>by omega));obtain⟨U5,w1,w2⟩:=works_run knX (S:=U4) (d+17) (by omega) o4 (hH.grew (fun h=>h) g4);refine⟨U5,?_,g4.trans w2⟩;rw[<- hE,r1,callP_ret,ex0,b_s,ex1,b_s,q1,callP_ret,ex0,b_s,ex1,b_s,fl0,k1,t1,callP_ret];simp only[g_t,b_s,c_t,p_b];rw[hsm,callP_ret];simp only[g_t,b_s,c_t,p_b];rw[w1,callP_ret]
 | error e=>
  rw[hA]at h8;obtain⟨U1,x,r1,r2,r3,r4,r5⟩:=h8;have o1:=r5.on.trans ho;have h9:=lexd_run refX (d+37) t o1 (by omega) (by omega);rw[hA]at h9;obtain⟨U2,q1,q2,q5⟩:=h9;have o2:=q5.on.trans o1
  obtain⟨U3,k1,k2⟩:=keep29 o2 (qb6 e.1 e.2) fun p23 X=>callP ((ev E0 KX (d+40)).f 10 [.iface 51 (.ptr x 0),p23] X) fun t24 S24=>
   (qa0 true t24).bind fun g26=>(bif g26 then some .nilslice else some (.tuple [])).bind fun t26=>
   (qa0 true t24).bind fun g27=>(bif g27 then some .nilslice else some (.tuple [])).bind fun t27=>
   (qa0 true t24).bind fun g28=>callP (bif g28 then(ev E0 KX (d+40)).f 11 [t26,t27] S24 else some (.ret (.tuple []),S24)) fun t28 S28=>
   (qac t24 (some t28) (some (.bool false))).bind fun t29=>
   (qa0 true t29).bind fun g31=>callP (bif g31 then(ev E0 KX (d+40)).f 12 [] S28 else some (.ret (.tuple []),S28)) fun t31 S31=>
   (qac t29 (some t31) (some (.bool false))).bind fun t32=>
   some (.ret t32,S31)
  have o3:=k2.on.trans o2;have nx1:=r5.next
  have nx2:=q5.next
  have nx3:=k2.next
  have g1:Grew (fun x=>U1.next<=x) U1 U3:=q5.trans (k2.mono fun x _ h=>by omega);have g3:Grew (fun _=>False) S U3:=qfd (r5.trans (g1.mono fun x _ h=>by omega));obtain⟨U4,t1,t2⟩:=told_yes knX (d+38) o3 (hH.grew (fun h=>h) g3) (r2.grew r4 (by omega) g1) (by omega) q2;have o4:=t2.on.trans o3;have g4:=g3.trans t2;have hsm:=same_run (S:=U4) (toks:=[]) (Q:=fun _=>False) (Q':=fun _=>False) refX lgX (d+16) 22 o4 (qhx 39 5) ⟨rfl,fun i t h=>by simp at h⟩ (qhx 39 5) ⟨rfl,fun i t h=>by simp at h⟩ (fun t ht=>by simp at ht);obtain⟨U5,w1,w2⟩:=works_run knX (S:=U4) (d+17) (by omega) o4 (hH.grew (fun h=>h) g4);refine⟨U5,?_,g4.trans w2⟩;rw[<- hE,r1,callP_ret,ex0,b_s,ex1,b_s,q1,callP_ret,ex0,b_s,ex1,b_s,fl0,k1,t1,callP_ret];simp only[g_t,b_s,c_t,p_b];rw[hsm,callP_ret];simp only[g_t,b_s,c_t,p_b];rw[w1,callP_ret]
end
end Go.Proofs.YtafbipadnnmccaaDoor.W
