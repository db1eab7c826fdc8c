/-
  WHAT THE FUNCTIONS COME TO: each is read by the evaluator,printed,and told as a function of data,part 13 of 17 (no condition).
-/
import Derived.Test.YtafbipadnnmccaaDoorW12
noncomputable section
namespace Go.Proofs.YtafbipadnnmccaaDoor.W
open Go.Proofs.YtafbipadnnmccaaDoor.Ev Go.RowKit
def word51 (self:EV) (wi v0 v1 v3 v8 v10 v14 v17:V) (S:St):Rs:=
(faP 2 false 1 v17).bind fun t405=>
(ld1 t405 S).bind fun p406=>
(qbf p406.1 p406.2).bind fun p407=>
(qa4 E0 .add 3 false false v14 p407.1).bind fun t408=>
(qa4 E0 .add 3 false true v3 (.int .i64 1)).bind fun t411=>
callP (self.f 29 [v0,t408,wi,t411] p407.2) fun t412 S412=>
(qa6 t412 0).bind fun t414=>
(qa6 t412 1).bind fun t415=>
(qa6 t412 2).bind fun t416=>
(some (nwP 29 2 (Tr.ofListFrom .nil [(.int .i64 0),(.int .i64 0)] 0) S412)).bind fun p417=>
(stP 2 p417.1 t416 p417.2).bind fun p420=>
(faP 0 false 1 p417.1).bind fun t421=>
(ld1 t421 p420.2).bind fun p422=>
(qa4 E0 .neq 27 false true p422.1 (.int .i64 0)).bind fun t423=>
ifK t423 (
(qa7 E0 49 []).bind fun t424=>
(ldA 2 p417.1 (onS p422.2)).bind fun p425=>
(stP 6 v8 t424 (onS p425.2)).bind fun p426=>
(stP 2 v10 p425.1 (onS p426.2)).bind fun p428=>
qhh [(1,[2])] p422.2 [[],p425.2.log,p426.2.log,[],p428.2.log] p428.2 fun S429=>
(ldrA 6 v8 S429).bind fun p430=>
(ldrA 2 v10 p430.2).bind fun p431=>
some (.ret (.tuple [p430.1,(.int .i64 0),p431.1]),p431.2)) (
callP (self.f 26 [v0,t415,(sv [125])] p422.2) fun t434 S434=>
(unV .not t434).bind fun t435=>
ifK t435 (
(qa7 E0 49 []).bind fun t436=>
callP (self.f 28 [v1] S434) fun t438 S438=>
(stP 6 v8 t436 S438).bind fun p439=>
(stP 2 v10 t438 p439.2).bind fun p441=>
(ldrA 6 v8 p441.2).bind fun p442=>
(ldrA 2 v10 p442.2).bind fun p443=>
some (.ret (.tuple [p442.1,(.int .i64 0),p443.1]),p443.2)) (
(faP 4 false 1 v17).bind fun t445=>
(stP 1 t445 t414 S434).bind fun p446=>
(ldA 6 v17 p446.2).bind fun p447=>
(qa4 E0 .add 3 false true t415 (.int .i64 1)).bind fun t449=>
(qa4 E0 .sub 3 false false t449 v1).bind fun t451=>
(qa7 E0 29 []).bind fun t452=>
(stP 6 v8 p447.1 p447.2).bind fun p453=>
(stP 2 v10 t452 p453.2).bind fun p455=>
(ldrA 6 v8 p455.2).bind fun p456=>
(ldrA 2 v10 p456.2).bind fun p457=>
some (.ret (.tuple [p456.1,t451,p457.1]),p457.2)))
def tail51 (self:EV) (N:Nat) (x0 x1 x3 p01 p21 t8 t103:V) (S:St):Rs:=
callP (self.f 77 [x0,t103,(sv [63,35,64,42])] S) fun t346 S346=>
(qa4 E0 .eql 3 false true t346 (.int .i64 0)).bind fun t349=>
ifK t349 (
(qa7 E0 49 []).bind fun t350=>
callP (self.f 28 [x1] S346) fun t352 S352=>
(stP 6 p01 t350 S352).bind fun p353=>
(stP 2 p21 t352 p353.2).bind fun p355=>
(ldrA 6 p01 p355.2).bind fun p356=>
(ldrA 2 p21 p356.2).bind fun p357=>
some (.ret (.tuple [p356.1,(.int .i64 0),p357.1]),p357.2)) (
(qa4 E0 .add 3 false false t103 t346).bind fun t362=>
(qah E0 9 x0 (some t103) (some t362) none S346).bind fun p363=>
(qa7 E0 49 [(0,(.int .i64 2)),(1,p363.1),(3,t8)]).bind fun t365=>
(some (nwP 49 6 (Tr.ofListFrom .nil [(.int .i64 0),(sv []),(sv []),(.bool false),.nilslice,.nilptr] 0) p363.2)).bind fun p366=>
(stP 6 p366.1 t365 p366.2).bind fun p367=>
(qa4 E0 .add 3 false false t103 t346).bind fun t370=>
callP (self.f 26 [x0,t370,(sv [125])] p367.2) fun t374 S374=>
ifK t374 (
(ldA 6 p366.1 S374).bind fun p375=>
(qa4 E0 .add 3 false true t370 (.int .i64 1)).bind fun t377=>
(qa4 E0 .sub 3 false false t377 x1).bind fun t379=>
(qa7 E0 29 []).bind fun t380=>
(stP 6 p01 p375.1 p375.2).bind fun p381=>
(stP 2 p21 t380 p381.2).bind fun p383=>
(ldrA 6 p01 p383.2).bind fun p384=>
(ldrA 2 p21 p384.2).bind fun p385=>
some (.ret (.tuple [p384.1,t379,p385.1]),p385.2)) (
callP (self.f 78 [] S374) fun t386 S386=>
qjo self N (qlr self N (fun a s=>qak [8,9,10] a fun a=>(qbt E0 self Tryd.f51) a s) qas) (exB 0 (qlr self N (fun a s=>qak [8,9,10] a fun a=>(qbt E0 self Tryd.f51) a s) qas) qas) N x0 x1 x3 p01 p21 t8 t370 p366.1 t386 (.int .i64 0) S386))
theorem R51_388_step (self:EV) (N:Nat) (nk:Ac->St->Rs) (ek:Nat->Ac->St->Rs) ( v0 v1 v3 v8 v10 v11 v14 v17:V) (S:St):qlr self N nk ek (fr 219 [(0,v0),(1,v1),(3,v3),(8,v8),(10,v10),(11,v11),(14,v14),(17,v17)]) S =
(faP 2 false 1 v17).bind fun t389=>
(ld1 t389 S).bind fun p390=>
(qa4 E0 .eql 9 false true p390.1 (sv [])).bind fun t391=>
ifK t391 (
(qa7 E0 49 []).bind fun t392=>
callP (self.f 28 [v1] p390.2) fun t394 S394=>
(stP 6 v8 t392 S394).bind fun p395=>
(stP 2 v10 t394 p395.2).bind fun p397=>
(ldrA 6 v8 p397.2).bind fun p398=>
(ldrA 2 v10 p398.2).bind fun p399=>
some (.ret (.tuple [p398.1,(.int .i64 0),p399.1]),p399.2)) (
ifK v11 (word51 self (.int .i64 4) v0 v1 v3 v8 v10 v14 v17 p390.2) (word51 self (.int .i64 3) v0 v1 v3 v8 v10 v14 v17 p390.2)):=by kernel_rfl
theorem F51_step (self:EV) (N:Nat) (x0 x1 x2 x3:V) (S:St):F51 self N x0 x1 x2 x3 S =
(some (nwP 49 6 (Tr.ofListFrom .nil [(.int .i64 0),(sv []),(sv []),(.bool false),.nilslice,.nilptr] 0) S)).bind fun p0=>
(some (nwP 29 2 (Tr.ofListFrom .nil [(.int .i64 0),(.int .i64 0)] 0) p0.2)).bind fun p2=>
(qa4 E0 .neq 3 false true x2 (.int .i64 0)).bind fun t4=>
(qa0 true t4).bind fun g6=>(bif g6 then some x2 else some (.tuple [])).bind fun t6=>
(qa0 true t4).bind fun g7=>(bif g7 then qa4 E0 .neq 3 false true t6 (.int .i64 3)else some (.tuple [])).bind fun t7=>
(qac t4 (some t7) (some (.bool false))).bind fun t8=>
callP (self.f 26 [x0,x1,(sv [36,40,40])] p2.2) fun t12 S12=>
ifK t12 (
(qa7 E0 49 []).bind fun t13=>
callP (self.f 28 [x1] S12) fun t15 S15=>
(stP 6 p0.1 t13 S15).bind fun p16=>
(stP 2 p2.1 t15 p16.2).bind fun p18=>
(ldrA 6 p0.1 p18.2).bind fun p19=>
(ldrA 2 p2.1 p19.2).bind fun p20=>
some (.ret (.tuple [p19.1,(.int .i64 0),p20.1]),p20.2)) (
callP (self.f 26 [x0,x1,(sv [36,40])] S12) fun t23 S23=>
ifK t23 (
(qa4 E0 .add 3 false true x1 (.int .i64 2)).bind fun t26=>
callP (self.f 76 [x0,t26] S23) fun t27 S27=>
(qa4 E0 .lss 3 false true t27 (.int .i64 0)).bind fun t30=>
ifK t30 (
(qa7 E0 49 []).bind fun t31=>
callP (self.f 28 [x1] S27) fun t33 S33=>
(stP 6 p0.1 t31 S33).bind fun p34=>
(stP 2 p2.1 t33 p34.2).bind fun p36=>
(ldrA 6 p0.1 p36.2).bind fun p37=>
(ldrA 2 p2.1 p37.2).bind fun p38=>
some (.ret (.tuple [p37.1,(.int .i64 0),p38.1]),p38.2)) (
(qa4 E0 .add 3 false true x1 (.int .i64 2)).bind fun t41=>
(qah E0 9 x0 (some t41) (some t27) none S27).bind fun p43=>
(qa7 E0 49 [(0,(.int .i64 3)),(1,p43.1),(3,t8)]).bind fun t45=>
(qa4 E0 .add 3 false true t27 (.int .i64 1)).bind fun t47=>
(qa4 E0 .sub 3 false false t47 x1).bind fun t49=>
(qa7 E0 29 []).bind fun t50=>
(stP 6 p0.1 t45 p43.2).bind fun p51=>
(stP 2 p2.1 t50 p51.2).bind fun p53=>
(ldrA 6 p0.1 p53.2).bind fun p54=>
(ldrA 2 p2.1 p54.2).bind fun p55=>
some (.ret (.tuple [p54.1,t49,p55.1]),p55.2))) (
callP (self.f 26 [x0,x1,(sv [36,123])] S23) fun t58 S58=>
(unV .not t58).bind fun t59=>
ifK t59 (
(qa4 E0 .add 3 false true x1 (.int .i64 1)).bind fun t62=>
callP (self.f 77 [x0,t62,(sv [63,35,64,42])] S58) fun t63 S63=>
(qa4 E0 .eql 3 false true t63 (.int .i64 0)).bind fun t66=>
ifK t66 (
(qa7 E0 49 []).bind fun t67=>
(qa7 E0 29 []).bind fun t68=>
(stP 6 p0.1 t67 S63).bind fun p69=>
(stP 2 p2.1 t68 p69.2).bind fun p71=>
(ldrA 6 p0.1 p71.2).bind fun p72=>
(ldrA 2 p2.1 p72.2).bind fun p73=>
some (.ret (.tuple [p72.1,(.int .i64 0),p73.1]),p73.2)) (
(qa4 E0 .add 3 false true x1 (.int .i64 1)).bind fun t76=>
(qa4 E0 .add 3 false true x1 (.int .i64 1)).bind fun t78=>
(qa4 E0 .add 3 false false t78 t63).bind fun t80=>
(qah E0 9 x0 (some t76) (some t80) none S63).bind fun p81=>
(qa7 E0 49 [(0,(.int .i64 2)),(1,p81.1),(3,t8)]).bind fun t83=>
(qa4 E0 .add 3 true false (.int .i64 1) t63).bind fun t85=>
(qa7 E0 29 []).bind fun t86=>
(stP 6 p0.1 t83 p81.2).bind fun p87=>
(stP 2 p2.1 t86 p87.2).bind fun p89=>
(ldrA 6 p0.1 p89.2).bind fun p90=>
(ldrA 2 p2.1 p90.2).bind fun p91=>
some (.ret (.tuple [p90.1,t85,p91.1]),p91.2))) (
(qa4 E0 .geq 3 false true x3 (.int .i64 20)).bind fun t93=>
ifK t93 (
(qa7 E0 49 []).bind fun t94=>
(qa7 E0 29 [(0,(.int .i64 3)),(1,x1)]).bind fun t96=>
(stP 6 p0.1 t94 S58).bind fun p97=>
(stP 2 p2.1 t96 p97.2).bind fun p99=>
(ldrA 6 p0.1 p99.2).bind fun p100=>
(ldrA 2 p2.1 p100.2).bind fun p101=>
some (.ret (.tuple [p100.1,(.int .i64 0),p101.1]),p101.2)) (
(qa4 E0 .add 3 false true x1 (.int .i64 2)).bind fun t103=>
callP (self.f 26 [x0,t103,(sv [35])] S58) fun t107 S107=>
ifK t107 (
(qa4 E0 .add 3 false true t103 (.int .i64 1)).bind fun t110=>
callP (self.f 77 [x0,t110,(sv [63,64,42])] S107) fun t111 S111=>
(qa4 E0 .gtr 3 false true t111 (.int .i64 0)).bind fun t114=>
(qa0 true t114).bind fun g116=>(bif g116 then some x0 else some (.tuple [])).bind fun t116=>
(qa0 true t114).bind fun g117=>(bif g117 then some t103 else some (.tuple [])).bind fun t117=>
(qa0 true t114).bind fun g118=>(bif g118 then qa4 E0 .add 3 false true t117 (.int .i64 1)else some (.tuple [])).bind fun t118=>
(qa0 true t114).bind fun g119=>(bif g119 then some t111 else some (.tuple [])).bind fun t119=>
(qa0 true t114).bind fun g120=>(bif g120 then qa4 E0 .add 3 false false t118 t119 else some (.tuple [])).bind fun t120=>
(qa0 true t114).bind fun g121=>callP (bif g121 then self.f 26 [t116,t120,(sv [125])] S111 else some (.ret (.tuple []),S111)) fun t121 S121=>
(qac t114 (some t121) (some (.bool false))).bind fun t122=>
ifK t122 (
(qa4 E0 .add 3 false true t103 (.int .i64 1)).bind fun t125=>
(qa4 E0 .add 3 false true t103 (.int .i64 1)).bind fun t127=>
(qa4 E0 .add 3 false false t127 t111).bind fun t129=>
(qah E0 9 x0 (some t125) (some t129) none S121).bind fun p130=>
(qa7 E0 49 [(0,(.int .i64 2)),(1,p130.1),(2,(sv [108,101,110])),(3,t8)]).bind fun t132=>
(qa4 E0 .add 3 false true t103 (.int .i64 2)).bind fun t134=>
(qa4 E0 .add 3 false false t134 t111).bind fun t136=>
(qa4 E0 .sub 3 false false t136 x1).bind fun t138=>
(qa7 E0 29 []).bind fun t139=>
(stP 6 p0.1 t132 p130.2).bind fun p140=>
(stP 2 p2.1 t139 p140.2).bind fun p142=>
(ldrA 6 p0.1 p142.2).bind fun p143=>
(ldrA 2 p2.1 p143.2).bind fun p144=>
some (.ret (.tuple [p143.1,t138,p144.1]),p144.2)) (
tail51 self N x0 x1 x3 p0.1 p2.1 t8 t103 S121)) (
tail51 self N x0 x1 x3 p0.1 p2.1 t8 t103 S107))))):=by kernel_rfl
abbrev PadR (o:Except Flt (List Part×Nat)) (S:St) (r:Rs):Prop:=match o with
 | .ok q=>∃U v,r=some (.ret (.tuple [v,.int .i64 (q.2:Int),.agg 2 (qb6 0 0)]),U)/\PsR U S.next v q.1/\Grew (fun _=>False) S U
 | .error e=>∃U z,r=some (.ret (.tuple [.nilslice,z,.agg 2 (qb6 e.1 e.2)]),U)/\e.1≠0/\Grew (fun _=>False) S U
def qlo (K:FuncId->Option KF) (n:Nat):Prop:=∀(d:Nat) (S:St) (i:Nat) (s:Bs) (w deep:Nat),S.on=false->s.length<=5000->i<=s.length->deep<=20->4*n+2*s.length+61<=d->2*(s.length-i)+1<=n->n<100000->
 PadR (qam n s w deep i [] []) S ((ev E0 K d).f 29 [sv s,.int .i64 (i:Int),.int .i64 (w:Int),.int .i64 (deep:Int)] S)
abbrev BrdR (o:Except Flt (Part×Nat)) (S:St) (N i:Nat) (r:Rs):Prop:=match o with
 | .ok q=>∃U T,r=some (.ret (.tuple [.agg 6 T,.int .i64 ((q.2-i:Nat):Int),.agg 2 (qb6 0 0)]),U)/\i<q.2/\PtAt U (fun x=>N<=x/\x<U.next) q.1 T/\Grew (fun x=>N<=x) S U
 | .error e=>∃U T,r=some (.ret (.tuple [.agg 6 T,.int .i64 0,.agg 2 (qb6 e.1 e.2)]),U)/\e.1≠0/\Grew (fun x=>N<=x) S U
abbrev DoldR (o:Except Flt (Option (Part×Nat))) (S:St) (N i:Nat) (r:Rs):Prop:=match o with
 | .ok none=>∃U T,r=some (.ret (.tuple [.agg 6 T,.int .i64 0,.agg 2 (qb6 0 0)]),U)/\Grew (fun x=>N<=x) S U
 | .ok (some q)=>∃U T,r=some (.ret (.tuple [.agg 6 T,.int .i64 ((q.2-i:Nat):Int),.agg 2 (qb6 0 0)]),U)/\i<q.2/\PtAt U (fun x=>N<=x/\x<U.next) q.1 T/\Grew (fun x=>N<=x) S U
 | .error e=>∃U T,r=some (.ret (.tuple [.agg 6 T,.int .i64 0,.agg 2 (qb6 e.1 e.2)]),U)/\e.1≠0/\Grew (fun x=>N<=x) S U
theorem qel:qa7 E0 29 []=some (.agg 2 (qb6 0 0)):=by kernel_rfl
theorem build_fl (n:Nat):qa7 E0 29 [(0,(.int .i64 3)),(1,.int .i64 (n:Int))]=some (.agg 2 (qb6 3 n)):=by kernel_rfl
theorem build_len (t:Bs) (q:Bool):qa7 E0 49 [(0,(.int .i64 2)),(1,sv t),(2,(sv [108,101,110])),(3,.bool q)]=some (.agg 6 (qcr 2 t [108,101,110] q .nilslice)):=by kernel_rfl
theorem fl0:(Tr.ofListFrom .nil [(.int .i64 0),(.int .i64 0)] 0:Tr V)=qb6 0 0:=by unfold qb6; rfl
theorem subF {a b:Nat} (h:b<=a) (ha:a<9223372036854775808):qa4 E0 .sub 3 false false (.int .i64 (a:Int)) (.int .i64 (b:Int))=some (.int .i64 ((a-b:Nat):Int)):=by
 rw[binV_ii,intsV_sub,qe6 (by omega) (by omega),Int.natCast_sub h]
theorem add1l {a:Nat} (ha:a<9223372036854775):qa4 E0 .add 3 true false (.int .i64 1) (.int .i64 (a:Int))=some (.int .i64 ((1+a:Nat):Int)):=by
 rw[binV_ii,intsV_add,show((1:Int)+(a:Int))=((1+a:Nat):Int) by omega,qe6 (by omega) (by omega)]
theorem ne27 (n:Nat):qa4 E0 .neq 27 false true (.int .i64 (n:Int)) (.int .i64 0)=some (.bool (n != 0)):=by
 rw[binV_ii,intsV_neq]
 congr 2
 rw[Bool.eq_iff_iff];simp
theorem ex2 (a b c:V):qa6 (.tuple [a,b,c]) 2=some c:=Eq.trans rfl rfl
theorem ex03 (a b c:V):qa6 (.tuple [a,b,c]) 0=some a:=Eq.trans rfl rfl
theorem ex13 (a b c:V):qa6 (.tuple [a,b,c]) 1=some b:=Eq.trans rfl rfl
theorem fa2 (b:Nat):faP 2 false 1 (.ptr b 0)=some (.ptr b 2):=Eq.trans rfl rfl
theorem fa4 (b:Nat):faP 4 false 1 (.ptr b 0)=some (.ptr b 4):=Eq.trans rfl rfl
section
variable {K:FuncId->Option KF} {S U T:St} {i k N P:Nat} {s:Bs} {X Y:Tr V} {n:Nat}
theorem qmh {W:Nat->Prop} (g:Grew W S U) (h:T.heap=U.heap) (n:T.next=U.next) (o:T.on=U.on):Grew W S T:=⟨by rw[n]; exact g.next,o.trans g.on,fun x hx hw=>by rw[h]; exact g.keep x hx hw⟩
theorem stK_lgw {s s':St} (ho:s.on=false) {b off k:Nat} {t:Tr V} (h:stK s b off k t=some s') (l:List LE):stK (s.lg l) b off k t=some (s'.lg (⟨b,off,off+k,true⟩::l)):=by
 unfold stK at h;split at h
 . rename_i e esz n ro c hb
   cases hc:(Nat.ble (off+k) (esz*n)&&Nat.blt (esz*n) big&&!ro)with
   | false=>rw[hc]at h; cases h
   | true=>
    rw[hc]at h;simp only[cT,oI,oS]at h;obtain⟨c',hc',rfl⟩:=h;unfold stK;rw[show(s.lg l).heap.get b=_ from hb];simp only;rw[hc,hc',qby ho];rfl
 . cases h
theorem qk5 {s:St} (ho:s.on=false) {n b off:Nat} {v:V} {t:St} (h:stP n (.ptr b off) v s=some (.tuple [],t)) (l:List LE):stP n (.ptr b off) v (s.lg l)=some (.tuple [],t.lg (⟨b,off,off+n,true⟩::l)):=by
 have h':vu (bif Nat.beq v.size n&&!qae v then stK s b off n v.cells else none)=some (.tuple [],t):=h;show vu (bif Nat.beq v.size n&&!qae v then stK (s.lg l) b off n v.cells else none)=some (.tuple [],t.lg (⟨b,off,off+n,true⟩::l));cases hc:(Nat.beq v.size n&&!qae v)with
 | false=>rw[hc]at h'; cases h'
 | true=>
  rw[hc]at h';simp only[cT]at h' ⊢;unfold vu at h' ⊢;simp only[oI,oS,pM,true_and]at h';obtain⟨u,hu,rfl⟩:=h';rw[stK_lgw ho hu l];rfl
theorem fin3 (ho:S.on=false) (h0:AgAt S N 49 6 X) (h1:AgAt S (N+1) 29 2 Y) (hN:N+1<S.next) (tp tf:Tr V) (v:V):∃U,((stP 6 (.ptr N 0) (.agg 6 tp) S).bind fun p=>(stP 2 (.ptr (N+1) 0) (.agg 2 tf) p.2).bind fun q=>(ldrA 6 (.ptr N 0) q.2).bind fun r=>(ldrA 2 (.ptr (N+1) 0) r.2).bind fun u=>some (En.ret (.tuple [r.1,v,u.1]),u.2))=some (.ret (.tuple [.agg 6 tp,v,.agg 2 tf]),U)/\Grew (fun x=>x=N\/x=N+1) S U/\U.next=S.next:=by
 obtain⟨U1,a1,a2,a3,a4⟩:=h0.stA ho qej tp;have o1:=a3.on.trans ho;obtain⟨U2,b1,b2,b3,b4⟩:=(h1.grew hN (by omega) a3).stA o1 qda tf;have o2:=b3.on.trans o1;refine⟨U2,?_,(a3.mono fun x _ h=>.inl h).trans (b3.mono fun x _ h=>.inr h),by omega⟩;rw[a1,b_s];dsimp only;rw[b1,b_s];dsimp only;rw[(a2.grew (by omega) (by omega) b3).ldrA o2 qej,b_s];dsimp only;rw[b2.ldrA o2 qda,b_s]
theorem wr3 (hK:RefL K) (m:Nat) (ho:S.on=false) (h0:AgAt S N 49 6 X) (h1:AgAt S (N+1) 29 2 Y) (hN:N+1<S.next) (i:Nat):∃U,((qa7 E0 49 []).bind fun t=>callP ((ev E0 K (m+1)).f 28 [.int .i64 (i:Int)] S) fun t2 S2=>(stP 6 (.ptr N 0) t S2).bind fun p=>(stP 2 (.ptr (N+1) 0) t2 p.2).bind fun q=>(ldrA 6 (.ptr N 0) q.2).bind fun r=>(ldrA 2 (.ptr (N+1) 0) r.2).bind fun u=>some (En.ret (.tuple [r.1,.int .i64 0,u.1]),u.2))=some (.ret (.tuple [.agg 6 zP,.int .i64 0,.agg 2 (qb6 19 i)]),U)/\Grew (fun x=>N<=x) S U:=by
 obtain⟨U1,a1,a2,a3⟩:=qil hK m i ho;obtain⟨U2,b1,b2,b3⟩:=fin3 (a2.on.trans ho) (h0.grew (by omega) (fun h=>h) a2) (h1.grew (by omega) (fun h=>h) a2) (by omega) zP (qb6 19 i) (.int .i64 0);refine⟨U2,?_,(a2.mono fun x _ h=>h.elim).trans (b2.mono fun x _ h=>by omega)⟩;rw[qiv,b_s,a1,callP_ret];exact b1
theorem pairs_w51 (B N:Nat) (h:B≠N) (l l':List LE) (hl:∀e∈l,e.b=N):qai [[],[⟨B,0,0+2,false⟩],l,[],l'] [(1,[2])]=true:=by
 have h1:qbr [⟨B,0,0+2,false⟩] l=false:=clash_or fun e he f hf=>by
  cases List.mem_singleton.1 he;exact .inl fun q=>h (q.trans (hl f hf))
 show(bif (bif qbr [⟨B,0,0+2,false⟩] l then true else false)then false else true)=true;rw[h1];rfl
theorem word_run51 (hK:RefL K) (hP:qlo K n) (d:Nat) {w deep:Nat} {wi:Nat} {t o:Bs} (ho:S.on=false) (h0:AgAt S N 49 6 X) (h1:AgAt S (N+1) 29 2 Y) (hN:N+1<P) (hPS:P<S.next) (hX:AgAt S P 49 6 (qcr 2 t o (inD w) .nilslice)) (hs:s.length<=5000) (hk:k+o.length<=s.length) (hik:i<=k) (hdp:deep<20) (hd:4*n+2*s.length+61<=d) (hn:2*(s.length-(k+o.length))+1<=n) (hn2:n<100000) (hwi:(if inD w then 4 else 3)=wi) :
 BrdR (brT n s w deep i (k+o.length) t o) S N i (word51 (ev E0 K d) (.int .i64 (wi:Int)) (sv s) (.int .i64 (i:Int)) (.int .i64 (deep:Int)) (.ptr N 0) (.ptr (N+1) 0) (.int .i64 (k:Int)) (.ptr P 0) S):=by
 obtain⟨d',rfl⟩:∃d',d=d'+1:=⟨d-1,by omega⟩
 have hp:=hP (d'+1) S (k+o.length) s wi (deep+1) ho hs hk (by omega) hd hn hn2;have g2:=hX.ld1 ho qej (by decide) (show(qcr 2 t o (inD w) .nilslice).get 2=some (sv o)from rowP2 ..);unfold word51;rw[fa2,b_s,g2,b_s];dsimp only;rw[qfm,b_s];dsimp only;rw[addN (by omega),b_s,qb0 (by omega),b_s];unfold brT;rw[hwi];cases hq:qam n s wi (deep+1) (k+o.length) [] []with
 | error e=>
  rw[hq]at hp;obtain⟨U,z,p1,p2,p3⟩:=hp;have oU:=p3.on.trans ho;have nx:=p3.next
  rw[p1,callP_ret,ex03,b_s,ex13,b_s,ex2,b_s,b_s,qan,fl0];obtain⟨n1,n2,n3⟩:=qar oU 29 2 (qb6 0 0);have on1:=n2.on.trans oU;obtain⟨V1,m1,m2,m3,m4⟩:=n1.stA on1 qda (qb6 e.1 e.2);have oV:=m3.on.trans on1;have nx2:=n2.next
  rw[m1,b_s];dsimp only;rw[f_0,b_s,m2.ld1 oV qda (by decide) (flt0 e.1 e.2),b_s];dsimp only;rw[ne27,show(e.1 != 0)=true by simpa using p2,b_s,i_b,c_t,qiv,b_s];have k0:AgAt V1 N 49 6 X:=((h0.grew (by omega) (fun h=>h) p3).grew (by omega) (fun h=>h) n2).grew (by omega) (by omega) m3;have k1:AgAt V1 (N+1) 29 2 Y:=((h1.grew (by omega) (fun h=>h) p3).grew (by omega) (fun h=>h) n2).grew (by omega) (by omega) m3;have q1:ldA 2 (.ptr U.next 0) (V1.lg [])=some (.agg 2 (qb6 e.1 e.2),V1.lg [⟨U.next,0,0+2,false⟩]):=m2.ldOn qda [];obtain⟨V2,r1,r2,r3,r4⟩:=k0.stA oV qej zP;have oV2:=r3.on.trans oV;obtain⟨V3,u1,u2,u3,u4⟩:=(k1.grew (by omega) (by omega) r3).stA oV2 qda (qb6 e.1 e.2);have oV3:=u3.on.trans oV2;have r5:=qk5 oV r1 [];have u5:=qk5 oV2 u1 [];rw[show onS V1=V1.lg []from Eq.trans rfl rfl,q1,b_s];dsimp only;rw[qee,llg,r5,b_s];dsimp only;rw[qee,llg,u5,b_s];dsimp only;rw[qf0 (show qai [[],(V1.lg [⟨U.next,0,0+2,false⟩]).log,(V2.lg [⟨N,0,0+6,true⟩]).log,[],(V3.lg [⟨N+1,0,0+2,true⟩]).log] [(1,[2])]=true from pairs_w51 _ N (by omega) _ _ (fun e he=>by cases List.mem_singleton.1 he; rfl))];obtain⟨W,t1,t2,t3,t4⟩:=qcp oV V3 [⟨N+1,0,0+2,true⟩] [[],(V1.lg [⟨U.next,0,0+2,false⟩]).log,(V2.lg [⟨N,0,0+6,true⟩]).log,[],(V3.lg [⟨N+1,0,0+2,true⟩]).log];rw[t1]
  have gW:Grew (fun x=>N<=x) S W:=(p3.mono fun x _ h=>h.elim).trans ((n2.mono fun x _ h=>h.elim).trans ((m3.mono fun x _ h=>by omega).trans ((r3.mono fun x _ h=>by omega).trans (qmh (u3.mono fun x _ h=>by omega) t2 t3 (t4.trans oV3.symm)))))
  have a0:AgAt W N 49 6 zP:=by
   obtain⟨c,x1,x2⟩:=r2.grew (by omega) (by omega) u3;exact⟨c,by rw[t2]; exact x1,x2⟩
  have a1:AgAt W (N+1) 29 2 (qb6 e.1 e.2):=by
   obtain⟨c,x1,x2⟩:=u2;exact⟨c,by rw[t2]; exact x1,x2⟩
  rw[a0.ldrA t4 qej,b_s];dsimp only;rw[a1.ldrA t4 qda,b_s];exact⟨W,zP,rfl,p2,gW⟩
 | ok q=>
  rw[hq]at hp;obtain⟨l,j⟩:=q;obtain⟨U,v,p1,⟨rows,p2,p3,p4⟩,p5⟩:=hp;have hle:=(qcc n).1 s wi (deep+1) (k+o.length) [] [] l j hq hk;have oU:=p5.on.trans ho;have nx:=p5.next
  rw[p1,callP_ret,ex03,b_s,ex13,b_s,ex2,b_s,b_s,qan,fl0];obtain⟨n1,n2,n3⟩:=qar oU 29 2 (qb6 0 0);have on1:=n2.on.trans oU;obtain⟨V1,m1,m2,m3,m4⟩:=n1.stA on1 qda (qb6 0 0);have oV:=m3.on.trans on1;have nx2:=n2.next
  have gV:Grew (fun x=>x=U.next) U V1:=(n2.mono fun x _ h=>h.elim).trans m3;rw[m1,b_s];dsimp only;rw[f_0,b_s,m2.ld1 oV qda (by decide) (flt0 0 0),b_s];dsimp only;rw[ne27,show((0:Nat) != 0)=false from rfl,b_s,i_b,c_f,qdy hK d' s j [125] (by omega) (by decide) (by decide),callP_ret,qjj,b_s,i_b];have k0:AgAt V1 N 49 6 X:=(h0.grew (by omega) (fun h=>h) p5).grew (by omega) (by omega) gV;have k1:AgAt V1 (N+1) 29 2 Y:=(h1.grew (by omega) (fun h=>h) p5).grew (by omega) (by omega) gV;have kX:AgAt V1 P 49 6 (qcr 2 t o (inD w) .nilslice):=(hX.grew (by omega) (fun h=>h) p5).grew (by omega) (by omega) gV;have gS:Grew (fun x=>N<=x) S V1:=(p5.mono fun x _ h=>h.elim).trans (gV.mono fun x _ h=>by omega);cases ha:atD s j [125]with
  | false=>
   rw[nF,c_t,iN (by simp)];obtain⟨W,w1,w2⟩:=wr3 hK d' oV k0 k1 (by omega) i;exact⟨W,zP,w1,(by decide:(19:Nat)≠0),gS.trans w2⟩
  | true=>
   have hj:=qb1 ha (by decide);simp only[List.length_singleton]at hj;rw[Bool.not_true,c_f,iP rfl,fa4,b_s];obtain⟨x1,x2,x3⟩:=qhq p2;obtain⟨V2,r1,r2,r3,r4⟩:=kX.st1 oV qej (by decide) (by decide:4<6) v x1 x2 x3;have oV2:=r3.on.trans oV;rw[set_word]at r2;rw[r1,b_s];dsimp only;rw[r2.ldA oV2 qej,b_s];dsimp only;rw[qb0 (by omega),b_s,subF (by omega) (by omega),b_s,qel,b_s];obtain⟨V3,u1,u2,u3⟩:=fin3 oV2 (k0.grew (by omega) (by omega) r3) (k1.grew (by omega) (by omega) r3) (by omega) (qcr 2 t o (inD w) v) (qb6 0 0) (.int .i64 ((j+1-i:Nat):Int));have gX:Grew (fun x=>x=U.next\/x=N\/x=N+1\/x=P) U V3:=(gV.mono fun x _ h=>.inl h).trans ((r3.mono fun x _ h=>.inr (.inr (.inr h))).trans (u2.mono fun x _ h=>by omega));have nx3:=gX.next
   refine⟨V3,_,u1,by omega,?_,gS.trans ((r3.mono fun x _ h=>by omega).trans (u2.mono fun x _ h=>by omega))⟩;simp only[PtAt];refine⟨v,rows,rfl,p2.grew (fun r hr hw=>?_) gX,(p3.grew gX fun x hx hw=>by omega).mono fun x hx=>by omega,fun r hr=>?_⟩
   . have:=p4 r hr
     have:=p2.blk_lt hr;omega
   . have:=p4 r hr
     have:=p2.blk_lt hr;omega
theorem opsd_loop (hK:RefL K) (m N':Nat) {t:Bs} {qd:Bool} {s:Bs} {k P:Nat} (hk:k<1000000000) (v1 v3 v8 v10 v11 v18:V) (nk:Ac->St->Rs) (ek:Nat->Ac->St->Rs) :
 ∀(l:List Bs) (j q:Nat) (S:St),S.on=false->TL S v18 opsT->(∀r,qa8 v18=some r->r≠P)->P<S.next->AgAt S P 49 6 (qcr 2 t [] qd .nilslice)->opsT.drop j=l->l.length+1<q->(∀o∈l,o≠[]/\o.length<1000)->
 ∃U,qjo (ev E0 K (m+1)) N' nk ek q (sv s) v1 v3 v8 v10 v11 (.int .i64 (k:Int)) (.ptr P 0) v18 (.int .i64 (j:Int)) S=ek 0 (fr 219 [(0,sv s),(1,v1),(3,v3),(8,v8),(10,v10),(11,v11),(14,.int .i64 (k:Int)),(17,.ptr P 0)]) U/\AgAt U P 49 6 (qcr 2 t ((l.find? fun o=>atD s k o).getD []) qd .nilslice)/\Grew (fun x=>x=P) S U/\U.next=S.next
 | l,j,0,S,_,_,_,_,_,_,hq,_=>absurd hq (Nat.not_lt_zero _)
 | [],j,q+1,S,ho,hL,hb,hP,hX,hj,hq,_=>by
  refine⟨S,?_,hX,Grew.refl _ _,rfl⟩;rw[qjp,hL.len,b_s];dsimp only;rw[qdz,dF (by have:=qc4 hj; omega),b_s];simp only[g_t,qf1,b_s,c_f,p_b,i_b]
 | o::l,j,q+1,S,ho,hL,hb,hP,hX,hj,hq,ht=>by
  obtain⟨hlt,hc,hr,_⟩:=qcy hj;rw[List.length_cons]at hq;obtain⟨h1,h2⟩:=ht o (List.mem_cons_self ..);obtain⟨p,p1,p2⟩:=hL.ld ho (i:=j) (a:=o) (by rw[List.getElem?_eq_getElem hlt,hc]);have g2:=hX.ld1 ho qej (by decide) (show(qcr 2 t [] qd .nilslice).get 2=some (sv [])from rowP2 ..);have hlen:opsT.length=12:=rfl;have e0:qjo (ev E0 K (m+1)) N' nk ek (q+1) (sv s) v1 v3 v8 v10 v11 (.int .i64 (k:Int)) (.ptr P 0) v18 (.int .i64 (j:Int)) S=_:=qjp ..;rw[hL.len,b_s]at e0;dsimp only at e0;rw[qdz,dT hlt,b_s]at e0;simp only[g_t,b_s,c_t,fa2]at e0;rw[g2,b_s]at e0;dsimp only at e0;rw[eqStr,show(([]:Bs)==[])=true from rfl,b_s,p_b,c_t,b_s,i_b,c_t,p1,b_s,p2,b_s]at e0;dsimp only at e0;rw[qdy hK m s k o hk (by omega) h1,callP_ret,i_b]at e0;rw[List.find?_cons];cases ha:atD s k o with
  | false=>
   obtain⟨U,u1,u2⟩:=opsd_loop hK m N' hk v1 v3 v8 v10 v11 v18 nk ek l (j+1) q S ho hL hb hP hX hr (by omega) (fun o h=>ht o (mO _ h));refine⟨U,?_,u2⟩;rw[e0,ha,c_f,qb0 (by omega),b_s,u1]
  | true=>
   obtain⟨U,u1,u2,u3,u4⟩:=hX.st1 ho qej (by decide) (by decide:2<6) (sv o) rfl rfl rfl;have oU:=u3.on.trans ho;rw[set_op]at u2;have g3:=u2.ld1 oU qej (by decide) (show(qcr 2 t o qd .nilslice).get 2=some (sv o)from rowP2 ..);rw[ha,c_t,b_s,p2,b_s]at e0;dsimp only at e0;rw[u1,b_s]at e0;dsimp only at e0;rw[qb0 (by omega),b_s]at e0;refine⟨U,?_,u2,u3,u4⟩;obtain⟨q',rfl⟩:∃q',q=q'+1:=⟨q-1,by omega⟩
   rw[e0,qjp,hL.len,b_s];dsimp only;rw[qdz,b_s];by_cases h:j+1<opsT.length
   . rw[dT h]
     simp only[g_t,b_s,c_t,fa2];rw[g3,b_s];dsimp only
     have hne:(o==[])=false:=by
      cases o with
      | nil=>exact absurd rfl h1
      | cons c o=>rfl
     rw[eqStr,hne,b_s,p_b,c_t,b_s,i_b,c_f]
   . rw[dF h]
     simp only[g_t,qf1,b_s,c_f,p_b,i_b]
theorem BrdR.after {o:Except Flt (Part×Nat)} {r:Rs} (g:Grew (fun x=>N<=x) S T) (h:BrdR o T N i r):BrdR o S N i r:=by
 cases o with
 | ok q=>
  obtain⟨U,X,h1,h2,h3,h4⟩:=h;exact⟨U,X,h1,h2,h3,g.trans h4⟩
 | error e=>
  obtain⟨U,X,h1,h2,h3⟩:=h;exact⟨U,X,h1,h2,g.trans h3⟩
theorem DoldR.after {o:Except Flt (Option (Part×Nat))} {r:Rs} (g:Grew (fun x=>N<=x) S T) (h:DoldR o T N i r):DoldR o S N i r:=by
 cases o with
 | ok q=>
  cases q with
  | none=>
   obtain⟨U,X,h1,h2⟩:=h;exact⟨U,X,h1,g.trans h2⟩
  | some q=>
   obtain⟨U,X,h1,h2,h3,h4⟩:=h;exact⟨U,X,h1,h2,h3,g.trans h4⟩
 | error e=>
  obtain⟨U,X,h1,h2,h3⟩:=h;exact⟨U,X,h1,h2,g.trans h3⟩
def liftB (o:Except Flt (Part×Nat)):Except Flt (Option (Part×Nat)):=match o with
 | .error e=>.error e
 | .ok q=>.ok (some q)
theorem brd_dold {o:Except Flt (Part×Nat)} {r:Rs} (h:BrdR o S N i r):DoldR (liftB o) S N i r:=by
 cases o with
 | ok q=>exact h
 | error e=>exact h
theorem opsT_ok:∀o∈opsT,o≠[]/\o.length<1000:=by
 intro t ht;unfold opsT at ht;simp only[List.mem_cons,List.not_mem_nil,or_false]at ht;rcases ht with rfl|rfl|rfl|rfl|rfl|rfl|rfl|rfl|rfl|rfl|rfl|rfl<;>exact⟨by decide,by decide⟩
theorem ops78_run (hK:RefL K) (m:Nat) (ho:S.on=false):∃U,(ev E0 K (m+1)).f 78 [] S=some (.ret (.slice S.next 0 12 12),U)/\TL U (.slice S.next 0 12 12) opsT/\Grew (fun _=>False) S U/\U.next=S.next+1:=by
 obtain⟨U,h1,h2⟩:=qji ho opsT (by decide);refine⟨U,rv78 hK ?_,h2⟩;show F78 (ev E0 K m) qa3 S=_;rw[F78_eq];have e:bsP 9 1 12 (Ev.one (sv [])) [(0,(sv [58,45])),(1,(sv [58,61])),(2,(sv [58,43])),(3,(sv [58,63])),(4,(sv [35,35])),(5,(sv [37,37])),(6,(sv [45])),(7,(sv [61])),(8,(sv [43])),(9,(sv [63])),(10,(sv [35])),(11,(sv [37]))] S=some (.slice S.next 0 12 12,U):=h1;rw[e,b_s]
theorem take_sub (s:Bs) (a m:Nat):(s.drop a).take (a+m-a)=(s.drop a).take m:=by rw[show a+m-a=m by omega]
theorem tail_run51 (hK:RefL K) (hP:qlo K n) (d:Nat) {w deep:Nat} (ho:S.on=false) (h0:AgAt S N 49 6 X) (h1:AgAt S (N+1) 29 2 Y) (hN:N+1<S.next) (hs:s.length<=5000) (hi:i+2<=s.length) (hdp:deep<20) (hd:4*n+2*s.length+61<=d) (hn:2*(s.length-i)<=n+1) (hn2:n<100000) :
 BrdR (brS n s w deep i) S N i (tail51 (ev E0 K d) qa3 (sv s) (.int .i64 (i:Int)) (.int .i64 (deep:Int)) (.ptr N 0) (.ptr (N+1) 0) (.bool (inD w)) (.int .i64 ((i+2:Nat):Int)) S):=by
 obtain⟨d',rfl⟩:∃d',d=d'+10:=⟨d-10,by omega⟩
 unfold tail51;rw[qk1 hK (d'+7) s (i+2) (by omega) (by omega) [63,35,64,42] (by decide),callP_ret,eql0,b_s,i_b];unfold brS;dsimp only
 have hple:i+2+qcw (s.drop (i+2)) [63,35,64,42]<=s.length:=by
  have:=qgs (s.drop (i+2)) [63,35,64,42];rw[List.length_drop]at this;omega
 generalize hm:qcw (s.drop (i+2)) [63,35,64,42]=m at *;by_cases hm0:m=0
 . rw[dT hm0,iP hm0,c_t]
   obtain⟨W,w1,w2⟩:=wr3 hK (d'+9) ho h0 h1 hN i;exact⟨W,zP,w1,(by decide:(19:Nat)≠0),w2⟩
 . rw[dF hm0,iN hm0,c_f,addN (by omega),b_s,qap qij s (qav .i64 .i64 (by omega) hple) hple,b_s]
   dsimp only;rw[take_sub,qly,b_s,b_s,qan];rw[show(Tr.ofListFrom .nil [(.int .i64 0),(sv []),(sv []),(.bool false),.nilslice,.nilptr] 0:Tr V)=zP from rfl];generalize ht:(s.drop (i+2)).take m=t;obtain⟨n1,n2,n3⟩:=qar ho 49 6 zP;have on1:=n2.on.trans ho;obtain⟨V1,m1,m2,m3,m4⟩:=n1.stA on1 qej (qcr 2 t [] (inD w) .nilslice);have oV:=m3.on.trans on1;have nx:=n2.next
   have g1:Grew (fun x=>N<=x) S V1:=(n2.mono fun x _ h=>h.elim).trans (m3.mono fun x _ h=>by omega);have k0:AgAt V1 N 49 6 X:=(h0.grew (by omega) (fun h=>h) n2).grew (by omega) (by omega) m3;have k1:AgAt V1 (N+1) 29 2 Y:=(h1.grew (by omega) (fun h=>h) n2).grew (by omega) (by omega) m3;rw[m1,b_s];dsimp only;rw[b_s,qdy hK (d'+9) s (i+2+m) [125] (by omega) (by decide) (by decide),callP_ret,i_b];refine BrdR.after g1 ?_;cases ha:atD s (i+2+m) [125]with
   | true=>
    rw[c_t,iP rfl,m2.ldA oV qej,b_s];dsimp only;rw[qb0 (by omega),b_s,subF (by omega) (by omega),b_s,qel,b_s];obtain⟨V3,u1,u2,u3⟩:=fin3 oV k0 k1 (by omega) (qcr 2 t [] (inD w) .nilslice) (qb6 0 0) (.int .i64 ((i+2+m+1-i:Nat):Int));exact⟨V3,_,u1,(by omega:i<i+2+m+1),qbg ..,u2.mono fun x _ h=>by omega⟩
   | false=>
    rw[c_f,iN (by simp)];obtain⟨V2,o1,o2,o3,o4⟩:=ops78_run hK (d'+9) oV;have oV2:=o3.on.trans oV;obtain⟨V3,q1,q2,q3,q4⟩:=opsd_loop hK (d'+9) qa3 (t:=t) (qd:=inD w) (s:=s) (k:=i+2+m) (P:=S.next) (by omega) (.int .i64 (i:Int)) (.int .i64 (deep:Int)) (.ptr N 0) (.ptr (N+1) 0) (.bool (inD w)) (.slice V1.next 0 12 12) (qlr (ev E0 K (d'+10)) qa3 (fun a s=>qak [8,9,10] a fun a=>(qbt E0 (ev E0 K (d'+10)) Tryd.f51) a s) qas) (exB 0 (qlr (ev E0 K (d'+10)) qa3 (fun a s=>qak [8,9,10] a fun a=>(qbt E0 (ev E0 K (d'+10)) Tryd.f51) a s) qas) qas) opsT 0 qa3 V2 oV2 o2 (fun r hr=>by cases hr; omega) (by omega) (m2.grew (by omega) (fun h=>h) o3) rfl (by unfold qa3; decide) opsT_ok;have oV3:=q3.on.trans oV2;have nx3:=o3.next
    have g3:Grew (fun x=>N<=x) V1 V3:=(o3.mono fun x _ h=>h.elim).trans (q3.mono fun x _ h=>by omega);have b0:AgAt V3 N 49 6 X:=(k0.grew (by omega) (fun h=>h) o3).grew (by omega) (by omega) q3;have b1:AgAt V3 (N+1) 29 2 Y:=(k1.grew (by omega) (fun h=>h) o3).grew (by omega) (by omega) q3;rw[o1,callP_ret,show V.int .i64 0=.int .i64 ((0:Nat):Int)from rfl,q1,exB_same,R51_388_step,fa2,b_s,q2.ld1 oV3 qej (by decide) (rowP2 ..),b_s];dsimp only;rw[eqStr,b_s,i_b];refine BrdR.after g3 ?_;cases hf:opsT.find? fun o=>atD s (i+2+m) o with
    | none=>
     rw[hf]at q2;obtain⟨W,w1,w2⟩:=wr3 hK (d'+9) oV3 b0 b1 (by omega) i;rw[show((none:Option Bs).getD []==[])=true from rfl,c_t];exact⟨W,zP,w1,(by decide:(19:Nat)≠0),w2⟩
    | some o=>
     rw[hf]at q2;obtain⟨f1,f2,f3⟩:=qmc hf
     have hne:((some o:Option Bs).getD []==[])=false:=by
      cases o with
      | nil=>simp at f3
      | cons c o=>rfl
     rw[hne,c_f,i_b];dsimp only;have q2:AgAt V3 S.next 49 6 (qcr 2 t o (inD w) .nilslice):=q2
     rcases Bool.eq_false_or_eq_true (inD w)with hw|hw
     . have e:∀(A B:Rs),(bif inD w then A else B)=A:=fun A B=>by rw[hw]; rfl
       rw[e];exact word_run51 hK hP (d'+10) (wi:=4) oV3 b0 b1 (by omega) (by omega) q2 hs (by omega) (by omega) hdp hd (by omega) hn2 (by rw[hw]; rfl)
     . have e:∀(A B:Rs),(bif inD w then A else B)=B:=fun A B=>by rw[hw]; rfl
       rw[e];exact word_run51 hK hP (d'+10) (wi:=3) oV3 b0 b1 (by omega) (by omega) q2 hs (by omega) (by omega) hdp hd (by omega) hn2 (by rw[hw]; rfl)
end
section
variable {K:FuncId->Option KF} {S U T:St} {i k N P:Nat} {s:Bs} {X Y:Tr V} {n:Nat}
theorem inw (w:Nat) {f:V->Rs}:((qa4 E0 .neq 3 false true (.int .i64 (w:Int)) (.int .i64 0)).bind fun t4=>
 (qa0 true t4).bind fun g6=>(bif g6 then some (V.int .i64 (w:Int))else some (.tuple [])).bind fun t6=>
 (qa0 true t4).bind fun g7=>(bif g7 then qa4 E0 .neq 3 false true t6 (.int .i64 3)else some (.tuple [])).bind fun t7=>
 (qac t4 (some t7) (some (.bool false))).bind f)=f (.bool (inD w)):=by
 have e3:=i3ne w 3;rw[show V.int .i64 0=.int .i64 ((0:Nat):Int)from rfl,i3ne,b_s];unfold inD;rw[show(V.int .i64 3)=.int .i64 ((3:Nat):Int)from rfl];cases w != 0 with
 | true=>
  simp only[g_t,b_s,c_t,e3,p_b,Bool.true_and]
 | false=>
  simp only[g_t,qf1,b_s,c_f,p_b,Bool.false_and]
theorem geqT (a b:Nat):qa4 E0 .geq 3 false true (.int .i64 (a:Int)) (.int .i64 (b:Int))=some (.bool (decide (b<=a))):=by
 rw[binV_ii,intsV_geq]
 congr 2
 simp
theorem gtrN (a:Nat):qa4 E0 .gtr 3 false true (.int .i64 (a:Int)) (.int .i64 0)=some (.bool (a != 0)):=by
 rw[binV_ii,intsV_gtr]
 congr 2
 rw[Bool.eq_iff_iff];simp;omega
theorem dold_run (hK:RefL K) (hP:qlo K n) (d:Nat) {w deep:Nat} (ho:S.on=false) (hs:s.length<=5000) (hi:i<s.length) (hdp:deep<=20) (hd:4*n+2*s.length+61<=d) (hn:2*(s.length-i)<=n+1) (hn2:n<100000) :
 DoldR (qh6 (n+1) s w deep i) S S.next i ((ev E0 K (d+1)).f 51 [sv s,.int .i64 (i:Int),.int .i64 (w:Int),.int .i64 (deep:Int)] S):=by
 obtain⟨d',rfl⟩:∃d',d=d'+10:=⟨d-10,by omega⟩
 have hF:∀r,F51 (ev E0 K (d'+10)) qa3 (sv s) (.int .i64 (i:Int)) (.int .i64 (w:Int)) (.int .i64 (deep:Int)) S=some r->(ev E0 K (d'+10+1)).f 51 [sv s,.int .i64 (i:Int),.int .i64 (w:Int),.int .i64 (deep:Int)] S=some r:=fun r e=>rv51 hK e
 suffices hb2:DoldR (qh6 (n+1) s w deep i) S S.next i (F51 (ev E0 K (d'+10)) qa3 (sv s) (.int .i64 (i:Int)) (.int .i64 (w:Int)) (.int .i64 (deep:Int)) S) by
  cases hq:qh6 (n+1) s w deep i with
  | ok q=>
   rw[hq]at hb2;cases q with
   | none=>
    obtain⟨U,X,h1,h2⟩:=hb2;exact⟨U,X,hF _ h1,h2⟩
   | some q=>
    obtain⟨U,X,h1,h2⟩:=hb2;exact⟨U,X,hF _ h1,h2⟩
  | error e=>
   rw[hq]at hb2;obtain⟨U,x,h1,h2⟩:=hb2;exact⟨U,x,hF _ h1,h2⟩
 obtain⟨n1,n2,n3⟩:=qar ho 49 6 zP;have on1:=n2.on.trans ho;obtain⟨o1,o2,o3⟩:=qar on1 29 2 (qb6 0 0);have on2:=o2.on.trans on1;rw[F51_step,b_s,qan,show(Tr.ofListFrom .nil [(.int .i64 0),(sv []),(sv []),(.bool false),.nilslice,.nilptr] 0:Tr V)=zP from rfl,fl0,b_s,qan,inw,n3];rw[n3]at o1;have k0:AgAt (nwP 29 2 (qb6 0 0) (nwP 49 6 zP S).2).2 S.next 49 6 zP:=n1.grew (by omega) (fun h=>h) o2
 have hnx:S.next+1<(nwP 29 2 (qb6 0 0) (nwP 49 6 zP S).2).2.next:=by rw[o3,n3]; omega
 have g2:Grew (fun x=>S.next<=x) S (nwP 29 2 (qb6 0 0) (nwP 49 6 zP S).2).2:=(n2.mono fun x _ h=>h.elim).trans (o2.mono fun x _ h=>h.elim);refine DoldR.after g2 ?_;generalize (nwP 29 2 (qb6 0 0) (nwP 49 6 zP S).2).2=S2 at *;generalize S.next=N at *
 rw[qdy hK (d'+9) s i [36,40,40] (by omega) (by decide) (by decide),callP_ret,i_b];cases h1:atD s i [36,40,40]with
 | true=>
  rw[qh6,h1,iP rfl,c_t];obtain⟨W,w1,w2⟩:=wr3 hK (d'+9) on2 k0 o1 hnx i;exact⟨W,zP,w1,(by decide:(19:Nat)≠0),w2⟩
 | false=>
  rw[c_f,qdy hK (d'+9) s i [36,40] (by omega) (by decide) (by decide),callP_ret,i_b];cases h2:atD s i [36,40]with
  | true=>
   have hle:=qb1 h2 (by decide);simp only[List.length_cons,List.length_nil]at hle;rw[c_t,show V.int .i64 2=.int .i64 ((2:Nat):Int)from rfl,addC 2 (by omega),b_s,balanced_run hK (2*s.length) (d'+9) (i+2) s (by omega) (by omega) (by omega) (by omega) (by omega),callP_ret,lt0,b_s,i_b,qh6,h1,iN (by simp),h2,iP rfl];cases hcd:qgj (2*s.length) s (i+2) 1 with
   | none=>
    rw[show decide (cloV none<0)=true from rfl,c_t];obtain⟨W,w1,w2⟩:=wr3 hK (d'+9) on2 k0 o1 hnx i;exact⟨W,zP,w1,(by decide:(19:Nat)≠0),w2⟩
   | some j=>
    have hj:=(qkc (2*s.length)).1 s (i+2) 1 j hcd;obtain⟨j',rfl⟩:∃j',j=j'+1:=⟨j-1,by omega⟩
    rw[cloV_s,dF (by omega),c_f,b_s,qap qij s (qav .i64 .i64 (by omega) (by omega)) (by omega),b_s];dsimp only;rw[build_sub,b_s,qb0 (by omega),b_s,subF (by omega) (by omega),b_s,qel,b_s];obtain⟨W,u1,u2,u3⟩:=fin3 on2 k0 o1 hnx (qcr 3 ((s.drop (i+2)).take (j'-(i+2))) [] (inD w) .nilslice) (qb6 0 0) (.int .i64 ((j'+1-i:Nat):Int));exact⟨W,_,u1,(by omega:i<j'+1),qbg ..,u2.mono fun x _ h=>by omega⟩
  | false=>
   rw[c_f,qdy hK (d'+9) s i [36,123] (by omega) (by decide) (by decide),callP_ret,qjj,b_s,i_b];cases h3:atD s i [36,123]with
   | false=>
    have hple:i+1+qcw (s.drop (i+1)) [63,35,64,42]<=s.length:=by
     have:=qgs (s.drop (i+1)) [63,35,64,42];rw[List.length_drop]at this;omega
    rw[nF,c_t,qb0 (by omega),b_s,qk1 hK (d'+7) s (i+1) (by omega) (by omega) [63,35,64,42] (by decide),callP_ret,eql0,b_s,i_b,qh6,h1,iN (by simp),h2,iN (by simp),h3,iN (by simp)];dsimp only;generalize hm:qcw (s.drop (i+1)) [63,35,64,42]=m at *;by_cases hm0:m=0
    . rw[dT hm0,c_t,iP hm0,qiv,b_s,qel,b_s]
      obtain⟨W,u1,u2,u3⟩:=fin3 on2 k0 o1 hnx zP (qb6 0 0) (.int .i64 0);exact⟨W,_,u1,u2.mono fun x _ h=>by omega⟩
    . rw[dF hm0,c_f,iN hm0,b_s,b_s,addN (by omega),b_s,qap qij s (qav .i64 .i64 (by omega) hple) hple,b_s]
      dsimp only;rw[take_sub,qly,b_s,add1l (by omega),b_s,qel,b_s];obtain⟨W,u1,u2,u3⟩:=fin3 on2 k0 o1 hnx (qcr 2 ((s.drop (i+1)).take m) [] (inD w) .nilslice) (qb6 0 0) (.int .i64 ((1+m:Nat):Int));refine⟨W,_,?_,(by omega:i<i+1+m),qbg ..,u2.mono fun x _ h=>by omega⟩;rw[u1,show i+1+m-i=1+m by omega]
   | true=>
    have hle:=qb1 h3 (by decide);simp only[List.length_cons,List.length_nil]at hle;rw[dolD_br n s w deep i h1 h2 h3]
    change DoldR (liftB (brD n s w deep i)) _ _ _ _
    refine brd_dold ?_;rw[Bool.not_true,c_f,show V.int .i64 20=.int .i64 ((20:Nat):Int)from rfl,geqT,b_s,i_b];unfold brD;by_cases hdp2:20<=deep
    . rw[dT hdp2,c_t,iP hdp2,qiv,b_s,build_fl,b_s]
      obtain⟨W,u1,u2,u3⟩:=fin3 on2 k0 o1 hnx zP (qb6 3 i) (.int .i64 0);exact⟨W,_,u1,(by decide:(3:Nat)≠0),u2.mono fun x _ h=>by omega⟩
    . rw[dF hdp2,c_f,iN hdp2,show V.int .i64 2=.int .i64 ((2:Nat):Int)from rfl,addC 2 (by omega),b_s,qdy hK (d'+9) s (i+2) [35] (by omega) (by decide) (by decide),callP_ret,i_b]
      have ht:=tail_run51 (w:=w) (deep:=deep) hK hP (d'+10) on2 k0 o1 hnx hs hle (by omega) hd hn hn2;cases h4:atD s (i+2) [35]with
      | false=>
       rw[c_f,Bool.false_and,Bool.false_and,iN (by simp)];exact ht
      | true=>
       have hle4:=qb1 h4 (by decide);simp only[List.length_cons,List.length_nil]at hle4
       have hple:i+3+qcw (s.drop (i+3)) [63,64,42]<=s.length:=by
        have:=qgs (s.drop (i+3)) [63,64,42];rw[List.length_drop]at this;omega
       rw[c_t,qb0 (by omega),b_s,show i+2+1=i+3 from rfl,qk1 hK (d'+7) s (i+3) (by omega) (by omega) [63,64,42] (by decide),callP_ret,gtrN,b_s,Bool.true_and];generalize hm:qcw (s.drop (i+3)) [63,64,42]=m at *;cases hm0:m != 0 with
       | false=>
        simp only[g_t,qf1,b_s,c_f,callP_ret,p_b,i_b];rw[Bool.false_and,iN (by simp)];exact ht
       | true=>
        simp only[g_t,b_s,c_t];rw[qb0 (by omega),b_s,show i+2+1=i+3 from rfl,addN (by omega),b_s,qdy hK (d'+9) s (i+3+m) [125] (by omega) (by decide) (by decide),callP_ret,p_b,c_t,b_s,i_b,Bool.true_and];cases h5:atD s (i+3+m) [125]with
        | false=>
         rw[c_f,iN (by simp)];exact ht
        | true=>
         rw[c_t,iP rfl,b_s,qap qij s (qav .i64 .i64 (by omega) hple) hple,b_s];dsimp only;rw[take_sub,show(V.int .i64 ((2:Nat):Int))=.int .i64 2 from rfl,build_len,b_s,show(V.int .i64 2)=.int .i64 ((2:Nat):Int)from rfl,addC 2 (by omega),b_s,addN (by omega),b_s,subF (by omega) (by omega),b_s,qel,b_s];obtain⟨W,u1,u2,u3⟩:=fin3 on2 k0 o1 hnx (qcr 2 ((s.drop (i+3)).take m) [108,101,110] (inD w) .nilslice) (qb6 0 0) (.int .i64 ((i+2+2+m-i:Nat):Int));refine⟨W,_,?_,(by omega:i<i+3+m+1),qbg ..,u2.mono fun x _ h=>by omega⟩;rw[u1,show i+3+m+1-i=i+2+2+m-i by omega]
end
end Go.Proofs.YtafbipadnnmccaaDoor.W
end
