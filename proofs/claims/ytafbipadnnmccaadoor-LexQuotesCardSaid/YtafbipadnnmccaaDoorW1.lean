/-
  WHAT THE FUNCTIONS COME TO: each is read by the evaluator,printed,and told as a function of data,part 1 of 13 (no condition).
-/
import Derived.Test.YtafbipadnnmccaaDoorEv3
import Derived.Test.YtafbipadnnmccaaDoorProg
import Derived.WalkKit
import Derived.LaidEql
import Derived.Stop.Asserts
import Derived.RowKitTokens
import Derived.KernelRfl
noncomputable section
namespace Go.Proofs.YtafbipadnnmccaaDoor.X
open Go.RowKit Go.Extern.Stop Go.Stop Go.Extern
theorem as_nil (t:Value) (w:World):Calls Tryd.prog 32 #[.nilIface,t] w fun e w'=>e=.returned (.bool false)/\w'=w:=by
 go_enter Tryd.func32,Tryd.ntmps32
 go_wp2
 go_ret
 exact⟨rfl,rfl⟩
theorem valueOf71 (t:Addr) (w:World):(ReflectliteValue.unpack (.iface 71 (.pointer (some t)))).run Tryd.prog w
 = .ok (.agg #[.pointer (some ⟨4,71,none⟩),.pointer (some ⟨w.heap.size,0,none⟩),.int .u64 150]) (w.alloc (.cells #[.pointer (some t)] 71)):=by kernel_rfl
theorem type71 (a : Addr) (w : World) : (ReflectliteValue.methodAny (ReflectliteValue.valueError "reflectlite.Value.Type" 0) (fun t _ _ _ => ReflectliteType.toType t) #[.agg #[.pointer (some ⟨4, 71, none⟩), .pointer (some a), .int .u64 150]]).run Tryd.prog w
 = .ok (.iface 136 (.agg #[.pointer (some ⟨4,71,none⟩)])) w:=by kernel_rfl
theorem methodKind (h : Value) (w : World) : (Go.method 301 136 (.agg #[h]) "Kind").run Tryd.prog w = .ok (118, h) w := by kernel_rfl
theorem kind71 (w:World):((ReflectliteType.abiMethod fun t=>(fun a:Nat=>Value.int IntKind.u8 (a:Int)) <$> Rtype.kind t) #[.pointer (some ⟨4,71,none⟩)]).run Tryd.prog w=.ok (.int .u8 22) w:=by kernel_rfl
theorem kind51 (w:World):((ReflectliteType.abiMethod fun t=>(fun a:Nat=>Value.int IntKind.u8 (a:Int)) <$> Rtype.kind t) #[.pointer (some ⟨4,51,none⟩)]).run Tryd.prog w=.ok (.int .u8 22) w:=by kernel_rfl
theorem rlm (z:Sem Value) (f:TypeId->Addr->Nat->Nat->Sem Value) (v:Value) :
 ReflectliteValue.method z f #[v]=(do match <- ReflectliteValue.parts v with|none=>z|some (t,a,fl)=>f t a fl (fl%32)):=rfl
theorem parts71 (a:Addr) (w:World):(ReflectliteValue.parts (.agg #[.pointer (some ⟨4,71,none⟩),.pointer (some a),.int .u64 150])).run Tryd.prog w=.ok (some (71,a,150)) w:=by kernel_rfl
theorem isNil71 (a p:Addr) (W:World) (ha:W.cell? a=some (.pointer (some p))) :
 (ReflectliteValue.method (ReflectliteValue.valueError "reflectlite.Value.IsNil" 0) ReflectliteValue.isNil #[.agg #[.pointer (some ⟨4, 71, none⟩), .pointer (some a), .int .u64 150]]).run Tryd.prog W = .ok (.bool false) W := by
 rw[rlm];simp only[Sem.run_bind,parts71,Result.andThen];simp[ReflectliteValue.isNil,loadVar,isAgg,underlying,Tryd.underlying71,ha,Result.andThen]
theorem methodElem (h : Value) (w : World) : (Go.method 301 136 (.agg #[h]) "Elem").run Tryd.prog w = .ok (131, .agg #[h]) w := by kernel_rfl
theorem qko (h : Value) (w : World) : (Go.method 301 136 (.agg #[h]) "Implements").run Tryd.prog w = .ok (132, .agg #[h]) w := by kernel_rfl
theorem qiv (h : Value) (w : World) : (Go.method 301 136 (.agg #[h]) "AssignableTo").run Tryd.prog w = .ok (129, .agg #[h]) w := by kernel_rfl
theorem elem71 (w:World):(ReflectliteType.method ReflectliteType.elem #[.agg #[.pointer (some ⟨4,71,none⟩)]]).run Tryd.prog w=.ok (.iface 136 (.agg #[.pointer (some ⟨4,51,none⟩)])) w:=by kernel_rfl
theorem implements51 (w : World) : (ReflectliteType.relation "Implements" ReflectliteType.implements_ #[.agg #[.pointer (some ⟨4, 51, none⟩)], .iface 136 (.agg #[.pointer (some ⟨4, 24, none⟩)])]).run Tryd.prog w = .ok (.bool true) w := by kernel_rfl
theorem typeOf51 (v:Value) (w:World):(ReflectliteType.typeOf #[.iface 51 v]).run Tryd.prog w=.ok (.iface 136 (.agg #[.pointer (some ⟨4,51,none⟩)])) w:=by kernel_rfl
theorem assignable51 (w : World) : (ReflectliteType.relation "AssignableTo" ReflectliteType.assignableTo #[.agg #[.pointer (some ⟨4, 51, none⟩)], .iface 136 (.agg #[.pointer (some ⟨4, 51, none⟩)])]).run Tryd.prog w = .ok (.bool true) w := by kernel_rfl
theorem valueOf51 (e:Addr) (w:World):(ReflectliteValue.unpack (.iface 51 (.pointer (some e)))).run Tryd.prog w
 = .ok (.agg #[.pointer (some ⟨4,51,none⟩),.pointer (some ⟨w.heap.size,0,none⟩),.int .u64 150]) (w.alloc (.cells #[.pointer (some e)] 51)):=by kernel_rfl
theorem elemOf71 (w:World):(Rtype.elem? 71).run Tryd.prog w=.ok (some 51) w:=by kernel_rfl
theorem mk51 (p:Addr) (w:World):(ReflectliteValue.mk 51 p ReflectliteValue.flagAddr).run Tryd.prog w=.ok (.agg #[.pointer (some ⟨4,51,none⟩),.pointer (some p),.int .u64 406]) w:=by kernel_rfl
theorem elemV71 (a p:Addr) (W:World) (ha:W.cell? a=some (.pointer (some p))) :
 (ReflectliteValue.method (ReflectliteValue.valueError "reflectlite.Value.Elem" 0) ReflectliteValue.elem #[.agg #[.pointer (some ⟨4, 71, none⟩), .pointer (some a), .int .u64 150]]).run Tryd.prog W
  = .ok (.agg #[.pointer (some ⟨4,51,none⟩),.pointer (some p),.int .u64 406]) W:=by
 rw[rlm];simp only[Sem.run_bind,parts71,Result.andThen];simp[ReflectliteValue.elem,loadVar,isAgg,underlying,Tryd.underlying71,ha,Result.andThen,elemOf71,mk51]
theorem rls (v x:Value):ReflectliteValue.set #[v,x]=(do
 let (some (dst,a,fl),some (src,b,_)):=(<- ReflectliteValue.parts v,<- ReflectliteValue.parts x)
  | unsupported (.noEntry "extern/(internal/reflectlite.Value).Set.zeroValue")
 if fl / ReflectliteValue.flagAddr % 2 == 0 then unsupported (.noEntry "extern/(internal/reflectlite.Value).Set.unaddressable")
 let val <- loadVar src b
 if <- Rtype.directlyAssignable dst src then storeVar dst a val
 else if <- Rtype.implements dst src then
  if(<- Rtype.kind src)==20 then
   match val with
   | .nilIface => unsupported (.noEntry "extern/reflectlite: a nil value of one interface type handed on as a value of another")
   | _=>storeVar dst a val
  else storeVar dst a (.iface src val)
 else panicString ("reflectlite.Set: value of type " ++ (<- Rtype.spelt src) ++ " is not assignable to type " ++ (<- Rtype.spelt dst))
 pure (.tuple #[])):=rfl
theorem parts51a (a:Addr) (w:World):(ReflectliteValue.parts (.agg #[.pointer (some ⟨4,51,none⟩),.pointer (some a),.int .u64 406])).run Tryd.prog w=.ok (some (51,a,406)) w:=by kernel_rfl
theorem parts51 (a:Addr) (w:World):(ReflectliteValue.parts (.agg #[.pointer (some ⟨4,51,none⟩),.pointer (some a),.int .u64 150])).run Tryd.prog w=.ok (some (51,a,150)) w:=by kernel_rfl
theorem direct51 (w:World):(Rtype.directlyAssignable 51 51).run Tryd.prog w=.ok true w:=by kernel_rfl
theorem set51 (ta b e:Addr) (old:Value) (W:World) (hb:W.cell? b=some (.pointer (some e))) (ht:W.cell? ta=some old) (hf:W.frozen? ta=false) :
 (ReflectliteValue.set #[.agg #[.pointer (some ⟨4,51,none⟩),.pointer (some ta),.int .u64 406],.agg #[.pointer (some ⟨4,51,none⟩),.pointer (some b),.int .u64 150]]).run Tryd.prog W
  = .ok (.tuple #[]) (W.setCell ta (.pointer (some e))):=by
 rw[rls];simp only[Sem.run_bind,parts51a,parts51,Result.andThen];simp[ReflectliteValue.flagAddr,loadVar,isAgg,underlying,Tryd.underlying51,hb,Result.andThen,direct51,storeVar,Value.cells,storeCells,Addr.add];rw[run_store Tryd.prog W ta _ _ (by rfl)];simp[ht,hf]
set_option maxHeartbeats 4000000 in
theorem as_hit (e t:Addr) (old:Value) (w:World) (hg:w.cell? ⟨0,0,none⟩=some (.iface 136 (.agg #[.pointer (some ⟨4,24,none⟩)]))) (ht0:w.cell? t=some old) (hf0:w.frozen? t=false) :
 Calls Tryd.prog 32 #[.iface 51 (.pointer (some e)),.iface 71 (.pointer (some t))] w fun ev w'=>ev=.returned (.bool true)/\w'=((((w.alloc (.cells #[.pointer (some t)] 71)).alloc (.cells #[.pointer (some ⟨4,71,none⟩),.pointer (some ⟨w.heap.size,0,none⟩),.int .u64 150] 103)).alloc (.cells #[.pointer (some ⟨4,71,none⟩),.pointer (some ⟨w.heap.size,0,none⟩),.int .u64 150] 103)).alloc (.cells #[.pointer (some e)] 51)).setCell t (.pointer (some e)):=by
 have h6 := @run_callFunc_extern Tryd.prog 52 _ (fun args => ReflectliteValue.unpack (args.getD 0 (.tuple #[]))) Tryd.func52 (by kernel_rfl) (by kernel_rfl) (by kernel_rfl) (by kernel_rfl);have h7 := @run_callFunc_extern Tryd.prog 53 _ (ReflectliteValue.methodAny (ReflectliteValue.valueError "reflectlite.Value.Type" 0) (fun t _ _ _ => ReflectliteType.toType t)) Tryd.func53 (by kernel_rfl) (by kernel_rfl) (by kernel_rfl) (by kernel_rfl);have h8 := @run_callFunc_extern Tryd.prog 54 _ (ReflectliteValue.method (ReflectliteValue.valueError "reflectlite.Value.IsNil" 0) ReflectliteValue.isNil) Tryd.func54 (by kernel_rfl) (by kernel_rfl) (by kernel_rfl) (by kernel_rfl);have h27 := @run_callFunc_extern Tryd.prog 118 _ (ReflectliteType.abiMethod fun t => do pure (.int .u8 (<- Rtype.kind t))) Tryd.func118 (by kernel_rfl) (by kernel_rfl) (by kernel_rfl) (by kernel_rfl);have h37 := @run_callFunc_extern Tryd.prog 131 _ (ReflectliteType.method ReflectliteType.elem) Tryd.func131 (by kernel_rfl) (by kernel_rfl) (by kernel_rfl) (by kernel_rfl);have h38 := @run_callFunc_extern Tryd.prog 132 _ (ReflectliteType.relation "Implements" ReflectliteType.implements_) Tryd.func132 (by kernel_rfl) (by kernel_rfl) (by kernel_rfl) (by kernel_rfl);have h10 := @run_callFunc_extern Tryd.prog 56 _ ReflectliteType.typeOf Tryd.func56 (by kernel_rfl) (by kernel_rfl) (by kernel_rfl) (by kernel_rfl)
 have h35 := @run_callFunc_extern Tryd.prog 129 _ (ReflectliteType.relation "AssignableTo" ReflectliteType.assignableTo) Tryd.func129 (by kernel_rfl) (by kernel_rfl) (by kernel_rfl) (by kernel_rfl);have h11 := @run_callFunc_extern Tryd.prog 79 _ (ReflectliteValue.method (ReflectliteValue.valueError "reflectlite.Value.Elem" 0) ReflectliteValue.elem) Tryd.func79 (by kernel_rfl) (by kernel_rfl) (by kernel_rfl) (by kernel_rfl);have h12 := @run_callFunc_extern Tryd.prog 80 _ ReflectliteValue.set Tryd.func80 (by kernel_rfl) (by kernel_rfl) (by kernel_rfl) (by kernel_rfl);have tO := typeOf51;have mA := qiv;have a25 := assignable51;have v25 := valueOf51;have f6 := valueOf71;have f7 := type71;have mK := methodKind;have mE := methodElem;have mI := qko;have k27 := kind71;have k25 := kind51;have e27 := elem71;have i25 := implements51;have n8 := isNil71 ⟨w.heap.size, 0, none⟩ t ((w.alloc (.cells #[.pointer (some t)] 71)).alloc (.cells #[.pointer (some ⟨4, 71, none⟩), .pointer (some ⟨w.heap.size, 0, none⟩), .int .u64 150] 103)) (by simp)
 have hlt:0<w.heap.size:=by
  rcases Nat.eq_zero_or_pos w.heap.size with h0|h
  . simp[World.cell?,h0]at hg
  . exact h
 have hg2:((w.alloc (.cells #[.pointer (some t)] 71)).alloc (.cells #[.pointer (some ⟨4,71,none⟩),.pointer (some ⟨w.heap.size,0,none⟩),.int .u64 150] 103)).cell? ⟨0,0,none⟩=some (.iface 136 (.agg #[.pointer (some ⟨4,24,none⟩)])):=by
  rw[World.cell?_alloc_lt _ _ ⟨0,0,none⟩ (by simp),World.cell?_alloc_lt _ _ ⟨0,0,none⟩ hlt]; exact hg
 have htl:t.block<w.heap.size:=by
  rcases Nat.lt_or_ge t.block w.heap.size with h|h
  . exact h
  . simp[World.cell?,Array.getElem?_eq_none h]at ht0
 have el:=elemV71 ⟨w.heap.size,0,none⟩ t (((w.alloc (.cells #[.pointer (some t)] 71)).alloc (.cells #[.pointer (some ⟨4,71,none⟩),.pointer (some ⟨w.heap.size,0,none⟩),.int .u64 150] 103)).alloc (.cells #[.pointer (some ⟨4,71,none⟩),.pointer (some ⟨w.heap.size,0,none⟩),.int .u64 150] 103)) (by rw[World.cell?_alloc_lt _ _ ⟨w.heap.size,0,none⟩ (by simp; omega)]; simp)
 have st:=set51 t ⟨w.heap.size+1+1+1,0,none⟩ e old ((((w.alloc (.cells #[.pointer (some t)] 71)).alloc (.cells #[.pointer (some ⟨4,71,none⟩),.pointer (some ⟨w.heap.size,0,none⟩),.int .u64 150] 103)).alloc (.cells #[.pointer (some ⟨4,71,none⟩),.pointer (some ⟨w.heap.size,0,none⟩),.int .u64 150] 103)).alloc (.cells #[.pointer (some e)] 51))
  (by rw[World.cell?_alloc_at _ _ _ _ (by simp)]; rfl)
  (by rw[World.cell?_alloc_lt _ _ t (by simp; omega),World.cell?_alloc_lt _ _ t (by simp; omega),World.cell?_alloc_lt _ _ t (by simp; omega),World.cell?_alloc_lt _ _ t htl]; exact ht0)
  (by rw[World.frozen?_alloc_old _ _ t (by simp; omega),World.frozen?_alloc_old _ _ t (by simp; omega),World.frozen?_alloc_old _ _ t (by simp; omega),World.frozen?_alloc_old _ _ t (Nat.ne_of_lt htl)]; exact hf0)
 go_enter Tryd.func32,Tryd.ntmps32
 go_wp2
 refine wp_loop_rounds 1 ?_;rw[rounds_succ]
 go_wp2
 go_ret
 exact⟨rfl,rfl⟩
theorem isTypeOf (v:Value) (w:World):(Extern.ReflectliteType.typeOf #[.iface 27 v]).run Tryd.prog w=.ok (.iface 136 (.agg #[.pointer (some ⟨4,27,none⟩)])) w:=by kernel_rfl
theorem comparable27 (w:World):(callFunc 130 #[.agg #[.pointer (some ⟨4,27,none⟩)]]).run Tryd.prog w=.ok (.value (.bool true)) w:=by
 rw [@run_callFunc_extern Tryd.prog 130 _ (ReflectliteType.method fun t => do Rtype.noPackHeld "Comparable" t; pure (.bool (<- typeInfo t).comparable)) Tryd.func130 (by kernel_rfl) (by kernel_rfl) (by kernel_rfl) (by kernel_rfl)];have h : (ReflectliteType.method (fun t => do Rtype.noPackHeld "Comparable" t; pure (.bool (<- typeInfo t).comparable)) #[.agg #[.pointer (some ⟨4, 27, none⟩)]]).run Tryd.prog w = .ok (.bool true) w := by kernel_rfl
 rw[h];rfl
theorem qkn (v : Value) (w : World) : (Go.method 301 136 v "Comparable").run Tryd.prog w = .ok (130, v) w := by kernel_rfl
theorem noIs51 (v:Value) (xT:TypeId) (w:World):(Instr.typeAssert (.iface 51 v) xT 148 true).run Tryd.prog w=.ok (.tuple #[.nilIface,.bool false]) w:=run_typeAssert_lacksB Tryd.underlying148 (by kernel_rfl) (by kernel_rfl) v xT w
theorem hasUnwrap51 (v:Value) (xT:TypeId) (w:World):(Instr.typeAssert (.iface 51 v) xT 143 true).run Tryd.prog w=.ok (.tuple #[.iface 51 v,.bool true]) w:=run_typeAssert_hasB Tryd.underlying143 (by kernel_rfl) v xT w
theorem methodUnwrap (v : Value) (w : World) : (Go.method 301 51 v "Unwrap").run Tryd.prog w = .ok (123, v) w := by kernel_rfl
theorem info27:(Tryd.prog.info? 27).map (·.comparable)=some true:=by kernel_rfl
theorem eql27 (c:Int) (w:World):(binOp .eql 24 (.iface 27 (.int .i64 c)) (.iface 27 (.int .i64 c))).run Tryd.prog w=.ok (.bool true) w:=by
 obtain⟨i,hi,hcmp⟩:=Option.map_eq_some_iff.1 info27
 have h:∀d:Nat,(Op.equalIn (d+2) 24 (.iface 27 (.int .i64 c)) (.iface 27 (.int .i64 c))).run Tryd.prog w=.ok true w:=fun d=>by
  simp[Op.equalIn,run_underlying Tryd.underlying24,run_underlying Tryd.underlying27,typeInfo,hi,hcmp]
 simp only[binOp];simp[Op.equal,Op.maxDepth,h 9998]
theorem is_hit (b:Addr) (c:Int) (w:World) (hb:w.cell? b=some (.int .i64 c)) :
 Calls Tryd.prog 33 #[.iface 51 (.pointer (some b)),.iface 27 (.int .i64 c)] w fun e w'=>e=.returned (.bool true)/\w'=w:=by
 have h8:=@run_callFunc_extern Tryd.prog 56 _ Extern.ReflectliteType.typeOf Tryd.func56 (by kernel_rfl) (by kernel_rfl) (by kernel_rfl) (by kernel_rfl);have tT:=isTypeOf;have cTT:=comparable27;have mR:=qkn;have nW:=noIs51;have uW:=hasUnwrap51;have mU:=methodUnwrap;have hty:=run_eql_iface_types (P:=Tryd.prog) 51 27 (.pointer (some b)) (.int .i64 c) Tryd.underlying24 (by decide) w;have heq:=eql27 c w
 go_enter Tryd.func33,Tryd.ntmps33
 go_wp2
 refine wp_loop_rounds 2 ?_;rw[rounds_succ]
 go_wp2
 rw[rounds_succ]
 go_wp2
 go_ret
 exact⟨rfl,rfl⟩
end Go.Proofs.YtafbipadnnmccaaDoor.X
namespace Go.Proofs.YtafbipadnnmccaaDoor.W
open Go.Proofs.YtafbipadnnmccaaDoor.Ev
set_option maxRecDepth 100000
noncomputable section
def E0:Env:={envOf Tryd.prog [7,8,28,29,38,39,43,48,49,52,56,57,80,81,88,89,114,156,157,158,159,163,178,179,185,186,187,188,189,190] [(81,4),(82,105),(84,3),(97,1)] []with glob:=(kinds [(0,0),(4,1)])}
def C24:Code:=Tryd.f24.body.getD .skip
def B24:D:=(qaz C24 [[],[]]).1
def F24 (self:EV) (N:Nat) (x0:V) (S:St):Rs:=qdg E0 self N Tryd.f24 B24 [x0] S
theorem F24_eq (self:EV) (N:Nat) (x0:V) (S:St):F24 self N x0 S =
(qa1 x0).bind fun t2=>
(faP 1 false 1 t2).bind fun t3=>
(ld1 t3 (onS S)).bind fun p4=>
(qa1 x0).bind fun t6=>
(faP 0 false 1 t6).bind fun t7=>
(ld1 t7 (onS p4.2)).bind fun p8=>
(qbw p8.1 (onS p8.2)).bind fun p9=>
(qa5 E0 .lss 3 false false p4.1 p9.1).bind fun t10=>
qh7 [(3,[7,8])] S [[],[],[],p4.2.log,[],[],[],p8.2.log,p9.2.log,[],[]] (onS p9.2) fun S12=>
some (.ret t10,S12):=by kernel_rfl
def C44:Code:=Tryd.f44.body.getD .skip
def B44:D:=(qaz C44 [[],[]]).1
def F44 (self:EV) (N:Nat) (x0 x1:V) (S:St):Rs:=qdg E0 self N Tryd.f44 B44 [x0,x1] S
theorem F44_eq (self:EV) (N:Nat) (x0 x1:V) (S:St):F44 self N x0 x1 S =
(qa1 x0).bind fun t2=>
(faP 0 false 1 t2).bind fun t3=>
(ld1 t3 (onS S)).bind fun p4=>
(qa1 x0).bind fun t6=>
(faP 1 false 1 t6).bind fun t7=>
(ld1 t7 (onS p4.2)).bind fun p8=>
(qak E0 9 p4.1 (some p8.1) none none (onS p8.2)).bind fun p9=>
qlm (qas E0 (B44.r.l).ops) S 10 [[],[],[],p4.2.log,[],[],[],p8.2.log,p9.2.log,[]] (self.f 38 [p9.1,x1] (onS p9.2)) fun t11 S11=>
qh7 [(3,[7])] S [[],[],[],p4.2.log,[],[],[],p8.2.log,p9.2.log,[],S11.log,[]] (onS S11) fun S13=>
some (.ret t11,S13):=by kernel_rfl
def C23:Code:=Tryd.f23.body.getD .skip
def B23:D:=(qaz C23 [[],[],[],[],[],[]]).1
def F23 (self:EV) (N:Nat) (x0 x1:V) (S:St):Rs:=qdg E0 self N Tryd.f23 B23 [x0,x1] S
theorem F23_eq (self:EV) (N:Nat) (x0 x1:V) (S:St):F23 self N x0 x1 S =
callP (self.f 44 [x0,x1] S) fun t3 S3=>
(unV .not t3).bind fun t4=>
ifK t4 (
some (.ret (.bool false),S3)) (
(qa1 x0).bind fun t7=>
(faP 1 false 1 t7).bind fun t8=>
(ld1 t8 S3).bind fun p9=>
(qbw x1 p9.2).bind fun p11=>
(qa5 E0 .add 3 false false p9.1 p11.1).bind fun t12=>
(qa1 x0).bind fun t13=>
(faP 1 false 1 t13).bind fun t14=>
(stP 1 t14 t12 p11.2).bind fun p15=>
some (.ret (.bool true),p15.2)):=by kernel_rfl
def C25:Code:=Tryd.f25.body.getD .skip
def B25:D:=(qaz C25 []).1
def F25 (self:EV) (N:Nat) (x0 x1:V) (S:St):Rs:=qdg E0 self N Tryd.f25 B25 [x0,x1] S
theorem F25_eq (self:EV) (N:Nat) (x0 x1:V) (S:St):F25 self N x0 x1 S =
(qab E0 52 [(0,x0),(1,x1)]).bind fun t2=>
(boxK 52 t2 S).bind fun p3=>
callP (qkc (.iface 51 p3.1) p3.2) fun t5 S5=>
some (.ret (.tuple []),S5):=by kernel_rfl
def C46:Code:=Tryd.f46.body.getD .skip
def B46:D:=(qaz C46 [[],[]]).1
def F46 (self:EV) (N:Nat) (x0 x1:V) (S:St):Rs:=qdg E0 self N Tryd.f46 B46 [x0,x1] S
theorem F46_eq (self:EV) (N:Nat) (x0 x1:V) (S:St):F46 self N x0 x1 S =
callP (self.f 66 [x0,x1] S) fun t5 S5=>
(qac t5 0).bind fun t6=>
(qac t5 1).bind fun t7=>
(qac t5 2).bind fun t8=>
some (.ret (.tuple [t6,t7,t8]),S5):=by kernel_rfl
def C66:Code:=Tryd.f66.body.getD .skip
def B66:D:=(qaz C66 [[],[],[],[],[],[]]).1
def F66 (self:EV) (N:Nat) (x0 x1:V) (S:St):Rs:=qdg E0 self N Tryd.f66 B66 [x0,x1] S
theorem F66_eq (self:EV) (N:Nat) (x0 x1:V) (S:St):F66 self N x0 x1 S =
callP (self.f 85 [x0,x1] S) fun t5 S5=>
(qa5 E0 .geq 3 false true t5 (.int .i64 0)).bind fun t8=>
ifK t8 (
(qak E0 9 x0 none (some t5) none (onS S5)).bind fun p11=>
(qbw x1 (onS p11.2)).bind fun p15=>
(qa5 E0 .add 3 false false t5 p15.1).bind fun t16=>
(qak E0 9 x0 (some t16) none none (onS p15.2)).bind fun p17=>
qh7 [(2,[6,8])] S5 [[],[],p11.2.log,[],[],[],p15.2.log,[],p17.2.log,[],[],[]] (onS p17.2) fun S21=>
some (.ret (.tuple [p11.1,p17.1,(.bool true)]),S21)) (
some (.ret (.tuple [x0,(sv []),(.bool false)]),S5)):=by kernel_rfl
def C73:Code:=Tryd.f73.body.getD .skip
def B73:D:=(qaz C73 [[],[]]).1
def F73 (self:EV) (N:Nat) (x0 x1:V) (S:St):Rs:=qdg E0 self N Tryd.f73 B73 [x0,x1] S
theorem F73_eq (self:EV) (N:Nat) (x0 x1:V) (S:St):F73 self N x0 x1 S =
callP (self.f 87 [x0,x1] S) fun t3 S3=>
some (.ret t3,S3):=by kernel_rfl
def C87:Code:=Tryd.f87.body.getD .skip
def B87:D:=(qaz C87 [[],[]]).1
def F87 (self:EV) (N:Nat) (x0 x1:V) (S:St):Rs:=qdg E0 self N Tryd.f87 B87 [x0,x1] S
theorem F87_eq (self:EV) (N:Nat) (x0 x1:V) (S:St):F87 self N x0 x1 S =
callP (qbo E0 self (.fn (.func 97) [] []) [x0,x1] S) fun t3 S3=>
some (.ret t3,S3):=by kernel_rfl
def C67:Code:=Tryd.f67.body.getD .skip
def B67:D:=(qaz C67 [[],[],[0,1,7,8],[],[],[],[],[],[],[],[0],[4],[]]).1
def RL67:List Nat:=cellsOf Tryd.f67.results.toList
def R67_1 (self:EV) (N:Nat) (nk:Ac->St->Rs) (ek:Nat->Ac->St->Rs) (a:Ac) (S:St):Rs:=qb8 [] a fun a=>dr E0 self RL67 N (B67.r).r (mkK E0 self Tryd.f67 nk ek) a S
theorem R67_1_eq (self:EV) (N:Nat) (nk:Ac->St->Rs) (ek:Nat->Ac->St->Rs) (S:St):R67_1 self N nk ek (fr 19 []) S =
some (.ret (.int .i64 (-1)),S):=by kernel_rfl
def L67_6 (self:EV) (N:Nat) (nk:Ac->St->Rs) (ek:Nat->Ac->St->Rs) (n:Nat) ( v0 v1 v7 v8:V) (S:St):Rs:=qdq [0,1,7,8] (dr E0 self RL67 N (B67.r.l.r.l.l)) (mkK E0 self Tryd.f67 nk ek) n (fr 19 [(0,v0),(1,v1),(7,v7),(8,v8)]) S
theorem L67_6_eq (self:EV) (N:Nat) (nk:Ac->St->Rs) (ek:Nat->Ac->St->Rs) (n:Nat) ( v0 v1 v7 v8:V) (S:St):L67_6 self N nk ek (n+1) v0 v1 v7 v8 S =
(qa5 E0 .lss 3 false false v8 v7).bind fun t7=>
ifK t7 (
(ixP 1 v0 v8).bind fun t13=>
(ld1 t13 S).bind fun p14=>
callP (qbo E0 self v1 [p14.1] p14.2) fun t15 S15=>
ifK t15 (
some (.ret v8,S15)) (
(qa5 E0 .add 3 false true v8 (.int .i64 1)).bind fun t18=>
L67_6 self N nk ek n v0 v1 v7 t18 S15)) (
ek 0 (fr 19 []) S):=by kernel_rfl
def F67 (self:EV) (N:Nat) (x0 x1:V) (S:St):Rs:=qdg E0 self N Tryd.f67 B67 [x0,x1] S
theorem F67_eq (self:EV) (N:Nat) (x0 x1:V) (S:St):F67 self N x0 x1 S =
(lnS x0 S).bind fun p4=>
L67_6 self N (R67_1 self N (qbu E0 self Tryd.f67) qav) (exB 0 (R67_1 self N (qbu E0 self Tryd.f67) qav) qav) N x0 x1 p4.1 (.int .i64 0) p4.2:=by kernel_rfl
def C47:Code:=Tryd.f47.body.getD .skip
def B47:D:=(qaz C47 [[],[]]).1
def F47 (self:EV) (N:Nat) (x0 x1:V) (S:St):Rs:=qdg E0 self N Tryd.f47 B47 [x0,x1] S
theorem F47_eq (self:EV) (N:Nat) (x0 x1:V) (S:St):F47 self N x0 x1 S =
callP (self.f 67 [x0,x1] S) fun t3 S3=>
(qa5 E0 .geq 3 false true t3 (.int .i64 0)).bind fun t4=>
some (.ret t4,S3):=by kernel_rfl
def C48:Code:=Tryd.f48.body.getD .skip
def B48:D:=(qaz C48 [[],[]]).1
def F48 (self:EV) (N:Nat) (S:St):Rs:=qdg E0 self N Tryd.f48 B48 [] S
theorem F48_eq (self:EV) (N:Nat) (S:St):F48 self N S =
(bsP 9 1 12 (Ev.one (sv [])) [(0,(sv [59,59])),(1,(sv [59])),(2,(sv [38,38])),(3,(sv [124,124])),(4,(sv [124])),(5,(sv [40])),(6,(sv [41])),(7,(sv [60,60])),(8,(sv [60])),(9,(sv [62,62])),(10,(sv [62,38])),(11,(sv [62]))] S).bind fun p1=>
some (.ret p1.1,p1.2):=by kernel_rfl
def C99:Code:=Tryd.f99.body.getD .skip
def B99:D:=(qaz C99 [[],[]]).1
def F99 (self:EV) (N:Nat) (S:St):Rs:=qdg E0 self N Tryd.f99 B99 [] S
theorem F99_eq (self:EV) (N:Nat) (S:St):F99 self N S =
(bsP 9 1 12 (Ev.one (sv [])) [(0,(sv [58,45])),(1,(sv [58,61])),(2,(sv [58,43])),(3,(sv [58,63])),(4,(sv [35,35])),(5,(sv [37,37])),(6,(sv [45])),(7,(sv [61])),(8,(sv [43])),(9,(sv [63])),(10,(sv [35])),(11,(sv [37]))] S).bind fun p1=>
some (.ret p1.1,p1.2):=by kernel_rfl
def C100:Code:=Tryd.f100.body.getD .skip
def B100:D:=(qaz C100 [[],[]]).1
def F100 (self:EV) (N:Nat) (x0:V) (S:St):Rs:=qdg E0 self N Tryd.f100 B100 [x0] S
theorem F100_eq (self:EV) (N:Nat) (x0:V) (S:St):F100 self N x0 S =
(qa5 E0 .geq 5 false true x0 (.int .u8 97)).bind fun t2=>
(qa2 true t2).bind fun g4=>(bif g4 then some x0 else some (.tuple [])).bind fun t4=>
(qa2 true t2).bind fun g5=>(bif g5 then qa5 E0 .leq 5 false true t4 (.int .u8 122)else some (.tuple [])).bind fun t5=>
(qao t2 (some t5) (some (.bool false))).bind fun t6=>
(qa2 false t6).bind fun g8=>(bif g8 then some x0 else some (.tuple [])).bind fun t8=>
(qa2 false t6).bind fun g9=>(bif g9 then qa5 E0 .geq 5 false true t8 (.int .u8 65)else some (.tuple [])).bind fun t9=>
(qa2 false t6).bind fun g10=>(bif g10 then some t9 else some (.tuple [])).bind fun t10=>
(qa2 true t10).bind fun g11=>(bif g11 then some x0 else some (.tuple [])).bind fun t11=>
(qa2 true t10).bind fun g12=>(bif g12 then qa5 E0 .leq 5 false true t11 (.int .u8 90)else some (.tuple [])).bind fun t12=>
(qa2 false t6).bind fun g13=>(bif g13 then qao t10 (some t12) (some (.bool false))else some (.tuple [])).bind fun t13=>
(qao t6 (some (.bool true)) (some t13)).bind fun t14=>
(qa2 false t14).bind fun g16=>(bif g16 then some x0 else some (.tuple [])).bind fun t16=>
(qa2 false t14).bind fun g17=>(bif g17 then qa5 E0 .eql 5 false true t16 (.int .u8 95)else some (.tuple [])).bind fun t17=>
(qao t14 (some (.bool true)) (some t17)).bind fun t18=>
some (.ret t18,S):=by kernel_rfl
def C101:Code:=Tryd.f101.body.getD .skip
def B101:D:=(qaz C101 [[],[]]).1
def F101 (self:EV) (N:Nat) (x0:V) (S:St):Rs:=qdg E0 self N Tryd.f101 B101 [x0] S
theorem F101_eq (self:EV) (N:Nat) (x0:V) (S:St):F101 self N x0 S =
(qa5 E0 .geq 5 false true x0 (.int .u8 48)).bind fun t2=>
(qa2 true t2).bind fun g4=>(bif g4 then some x0 else some (.tuple [])).bind fun t4=>
(qa2 true t2).bind fun g5=>(bif g5 then qa5 E0 .leq 5 false true t4 (.int .u8 57)else some (.tuple [])).bind fun t5=>
(qao t2 (some t5) (some (.bool false))).bind fun t6=>
some (.ret t6,S):=by kernel_rfl
def C68:Code:=Tryd.f68.body.getD .skip
def B68:D:=(qaz C68 [[],[]]).1
def F68 (self:EV) (N:Nat) (x0:V) (S:St):Rs:=qdg E0 self N Tryd.f68 B68 [x0] S
theorem F68_eq (self:EV) (N:Nat) (x0:V) (S:St):F68 self N x0 S =
(qa5 E0 .neq 96 false true x0 (.int .i64 0)).bind fun t2=>
(qa2 true t2).bind fun g4=>(bif g4 then some x0 else some (.tuple [])).bind fun t4=>
(qa2 true t2).bind fun g5=>(bif g5 then qa5 E0 .neq 96 false true t4 (.int .i64 3)else some (.tuple [])).bind fun t5=>
(qao t2 (some t5) (some (.bool false))).bind fun t6=>
some (.ret t6,S):=by kernel_rfl
def C71:Code:=Tryd.f71.body.getD .skip
def B71:D:=(qaz C71 [[],[],[],[],[],[],[],[],[],[]]).1
def F71 (self:EV) (N:Nat) (x0 x1:V) (S:St):Rs:=qdg E0 self N Tryd.f71 B71 [x0,x1] S
theorem F71_eq (self:EV) (N:Nat) (x0 x1:V) (S:St):F71 self N x0 x1 S =
(qa5 E0 .eql 96 false true x0 (.int .i64 0)).bind fun t2=>
ifK t2 (
callP (self.f 73 [(sv [32,9,10,59,38,124,40,41,60,62]),x1] S) fun t5 S5=>
(qa5 E0 .geq 3 false true t5 (.int .i64 0)).bind fun t6=>
some (.ret t6,S5)) (
(qa5 E0 .eql 96 false true x0 (.int .i64 1)).bind fun t8=>
ifK t8 (
(qa5 E0 .eql 5 false true x1 (.int .u8 34)).bind fun t11=>
some (.ret t11,S)) (
(qa5 E0 .eql 96 false true x0 (.int .i64 2)).bind fun t13=>
ifK t13 (
some (.ret (.bool false),S)) (
(qa5 E0 .eql 5 false true x1 (.int .u8 125)).bind fun t17=>
some (.ret t17,S)))):=by kernel_rfl
def C38:Code:=Tryd.f38.body.getD .skip
def B38:D:=(qaz C38 [[],[]]).1
def F38 (self:EV) (N:Nat) (x0 x1:V) (S:St):Rs:=qdg E0 self N Tryd.f38 B38 [x0,x1] S
theorem F38_eq (self:EV) (N:Nat) (x0 x1:V) (S:St):F38 self N x0 x1 S =
callP (self.f 60 [x0,x1] S) fun t3 S3=>
some (.ret t3,S3):=by kernel_rfl
def C60:Code:=Tryd.f60.body.getD .skip
def B60:D:=(qaz C60 [[],[]]).1
def F60 (self:EV) (N:Nat) (x0 x1:V) (S:St):Rs:=qdg E0 self N Tryd.f60 B60 [x0,x1] S
theorem F60_eq (self:EV) (N:Nat) (x0 x1:V) (S:St):F60 self N x0 x1 S =
(qbw x0 S).bind fun p2=>
(qbw x1 p2.2).bind fun p4=>
(qa5 E0 .geq 3 false false p2.1 p4.1).bind fun t5=>
(qa2 true t5).bind fun g7=>(bif g7 then some x0 else some (.tuple [])).bind fun t7=>
(qa2 true t5).bind fun g8=>(bif g8 then some x1 else some (.tuple [])).bind fun t8=>
(qa2 true t5).bind fun g9=>(bif g9 then qbw t8 p4.2 else some (.tuple [],p4.2)).bind fun p9=>
(qa2 true t5).bind fun g10=>(bif g10 then qak E0 9 t7 none (some p9.1) none p9.2 else some (.tuple [],p9.2)).bind fun p10=>
(qa2 true t5).bind fun g11=>(bif g11 then some x1 else some (.tuple [])).bind fun t11=>
(qa2 true t5).bind fun g12=>(bif g12 then qa5 E0 .eql 9 false false p10.1 t11 else some (.tuple [])).bind fun t12=>
(qao t5 (some t12) (some (.bool false))).bind fun t13=>
some (.ret t13,p10.2):=by kernel_rfl
def C13:Code:=Tryd.f13.body.getD .skip
def B13:D:=(qaz C13 [[],[]]).1
def F13 (self:EV) (N:Nat) (x0 x1:V) (S:St):Rs:=qdg E0 self N Tryd.f13 B13 [x0,x1] S
theorem F13_eq (self:EV) (N:Nat) (x0 x1:V) (S:St):F13 self N x0 x1 S =
callP (self.f 35 [x0,x1] S) fun t3 S3=>
some (.ret t3,S3):=by kernel_rfl
def C35:Code:=Tryd.f35.body.getD .skip
def B35:D:=(qaz C35 [[],[]]).1
def F35 (self:EV) (N:Nat) (x0 x1:V) (S:St):Rs:=qdg E0 self N Tryd.f35 B35 [x0,x1] S
theorem F35_eq (self:EV) (N:Nat) (x0 x1:V) (S:St):F35 self N x0 x1 S =
(qbw x0 S).bind fun p2=>
(qbw x1 p2.2).bind fun p4=>
(qa5 E0 .geq 3 false false p2.1 p4.1).bind fun t5=>
(qa2 true t5).bind fun g7=>(bif g7 then some x0 else some (.tuple [])).bind fun t7=>
(qa2 true t5).bind fun g8=>(bif g8 then some x0 else some (.tuple [])).bind fun t8=>
(qa2 true t5).bind fun g9=>(bif g9 then qbw t8 p4.2 else some (.tuple [],p4.2)).bind fun p9=>
(qa2 true t5).bind fun g10=>(bif g10 then some x1 else some (.tuple [])).bind fun t10=>
(qa2 true t5).bind fun g11=>(bif g11 then qbw t10 p9.2 else some (.tuple [],p9.2)).bind fun p11=>
(qa2 true t5).bind fun g12=>(bif g12 then qa5 E0 .sub 3 false false p9.1 p11.1 else some (.tuple [])).bind fun t12=>
(qa2 true t5).bind fun g13=>(bif g13 then qak E0 9 t7 (some t12) none none p11.2 else some (.tuple [],p11.2)).bind fun p13=>
(qa2 true t5).bind fun g14=>(bif g14 then some x1 else some (.tuple [])).bind fun t14=>
(qa2 true t5).bind fun g15=>(bif g15 then qa5 E0 .eql 9 false false p13.1 t14 else some (.tuple [])).bind fun t15=>
(qao t5 (some t15) (some (.bool false))).bind fun t16=>
some (.ret t16,p13.2):=by kernel_rfl
end
end Go.Proofs.YtafbipadnnmccaaDoor.W
namespace Go.Proofs.YtafbipadnnmccaaDoor.W
open Go.Proofs.YtafbipadnnmccaaDoor.Ev
abbrev Bs:=List UInt8
inductive Part where
 | mk (kind:Nat) (text op:Bs) (quoted:Bool) (word:List Part)
structure Tok where
 kind:Nat
 text:Bs
 parts:List Part
 quoted:Bool
 at_:Nat
abbrev Flt:=Nat×Nat
def byt (s:Bs) (i:Nat):UInt8:=s.getD i 0
def atD (s:Bs) (i:Nat) (t:Bs):Bool:=(s.drop i).take t.length==t
def letD (c:UInt8):Bool:=(97<=c&&c<=122)||(65<=c&&c<=90)||c==95
def digD (c:UInt8):Bool:=48<=c&&c<=57
def inD (w:Nat):Bool:=w != 0&&w != 3
def endsD (w:Nat) (c:UInt8):Bool:=
 if w=0 then [32,9,10,59,38,124,40,41,60,62].contains c else if w=1 then c==34 else if w=2 then false else c==125
def namD:Bs->Nat->Nat
 | [],n=>n
 | c::l,n=>if letD c||(0<n&&digD c)then namD l (n+1)else n
def qcv (s:Bs) (marks:Bs):Nat:=
 if namD s 0=0 then match s with
  | []=>0
  | c::_=>if digD c||marks.contains c then 1 else 0
 else namD s 0
def qji (s:Bs) (i:Nat) (c:UInt8):Option Nat:=((s.drop i).findIdx? (·==c)).map (·+i)
mutual
def qjf:Nat->Bs->Nat->Nat->Option Nat
 | 0,_,_,_=>none
 | n+1,s,i,deep=>
  if i<s.length then
   if byt s i=92 then qjf n s (i+2) deep
   else if byt s i=39 then match qji s (i+1) 39 with
    | none=>none
    | some k=>qjf n s (k+1) deep
   else if byt s i=34 then match quoD n s (i+1)with
    | none=>none
    | some j=>qjf n s j deep
   else if byt s i=40 then qjf n s (i+1) (deep+1)
   else if byt s i=41 then if deep=1 then some (i+1)else qjf n s (i+1) (deep-1)
   else qjf n s (i+1) deep
  else none
def quoD:Nat->Bs->Nat->Option Nat
 | 0,_,_=>none
 | n+1,s,i=>
  if i<s.length then
   if byt s i=92 then quoD n s (i+2)
   else if byt s i=34 then some (i+1)
   else if atD s i [36,40]then match qjf n s (i+2) 1 with
    | none=>none
    | some j=>quoD n s j
   else quoD n s (i+1)
  else none
end
def opsT:List Bs:=[[58,45],[58,61],[58,43],[58,63],[35,35],[37,37],[45],[61],[43],[63],[35],[37]]
def marT:List Bs:=[[59,59],[59],[38,38],[124,124],[124],[40],[41],[60,60],[60],[62,62],[62,38],[62]]
def qkw (w:Nat) (out:List Part) (text:Bs):List Part:=
 if text=[]then out else out++[.mk (if inD w then 1 else 0) text [] (inD w) []]
mutual
def qar:Nat->Bs->Nat->Nat->Nat->List Part->Bs->Except Flt (List Part×Nat)
 | 0,_,_,_,_,_,_=>.error (0,0)
 | n+1,s,w,deep,i,out,text=>
  if i<s.length/\endsD w (byt s i)=false then
   if atD s i [92,10]then qar n s w deep (i+2) out text
   else if byt s i=92 then
    if s.length<=i+1 then .error (19,i)
    else if inD w then
     qar n s w deep (i+2) out (text++(if [36,96,92].contains (byt s (i+1))||(byt s (i+1)==34&&w != 2)then []else [92])++[byt s (i+1)])
    else qar n s w deep (i+2) (qkw w out text++[.mk 1 [byt s (i+1)] [] false []]) []
   else if byt s i=36 then match dolD n s w deep i with
    | .error e=>.error e
    | .ok none=>qar n s w deep (i+1) out (text++[36])
    | .ok (some (p,j))=>qar n s w deep j (qkw w out text++[p]) []
   else if byt s i=96||(byt s i==34&&w==4)then .error (19,i)
   else if byt s i=39&&!inD w then match qji s (i+1) 39 with
    | none=>.error (19,i)
    | some k=>qar n s w deep (k+1) (qkw w out text++[.mk 1 ((s.drop (i+1)).take (k-(i+1))) [] false []]) []
   else if byt s i=34&&!inD w then match qar n s 1 deep (i+1) [] []with
    | .error e=>.error e
    | .ok (l,j)=>if atD s j [34]then qar n s w deep (j+1) (qkw w out text++(if l.isEmpty then [.mk 1 [] [] true []]else l)) []else .error (19,i)
   else qar n s w deep (i+1) out (text++[byt s i])
  else .ok (qkw w out text,i)
def dolD:Nat->Bs->Nat->Nat->Nat->Except Flt (Option (Part×Nat))
 | 0,_,_,_,_=>.error (0,0)
 | n+1,s,w,deep,i=>
  if atD s i [36,40,40]then .error (19,i)
  else if atD s i [36,40]then match qjf (2*s.length) s (i+2) 1 with
   | none=>.error (19,i)
   | some j=>.ok (some (.mk 3 ((s.drop (i+2)).take (j-1-(i+2))) [] (inD w) [],j))
  else if atD s i [36,123]then
   if 20<=deep then .error (3,i)
   else
    if atD s (i+2) [35]&&qcv (s.drop (i+3)) [63,64,42] != 0&&atD s (i+3+qcv (s.drop (i+3)) [63,64,42]) [125]then
     .ok (some (.mk 2 ((s.drop (i+3)).take (qcv (s.drop (i+3)) [63,64,42])) [108,101,110] (inD w) [],i+3+qcv (s.drop (i+3)) [63,64,42]+1))
    else
     let m:=qcv (s.drop (i+2)) [63,35,64,42]
     let t:=(s.drop (i+2)).take m
     let k:=i+2+m
     if m=0 then .error (19,i)
     else if atD s k [125]then .ok (some (.mk 2 t [] (inD w) [],k+1))
     else match opsT.find? fun o=>atD s k o with
      | none=>.error (19,i)
      | some o=>match qar n s (if inD w then 4 else 3) (deep+1) (k+o.length) [] []with
       | .error e=>.error e
       | .ok (l,j)=>if atD s j [125]then .ok (some (.mk 2 t o (inD w) l,j+1))else .error (19,i)
  else
   let m:=qcv (s.drop (i+1)) [63,35,64,42]
   if m=0 then .ok none else .ok (some (.mk 2 ((s.drop (i+1)).take m) [] (inD w) [],i+1+m))
end
def qcl (s:Bs):Nat:=4*s.length+100
def qgz:Nat->Bs->Nat->Nat
 | 0,_,i=>i
 | n+1,s,i=>if byt s i=32/\i<s.length then qgz n s (i+1)else if byt s i=9 then qgz n s (i+1)else if atD s i [92,10]then qgz n s (i+2)else i
def docD:Nat->Bs->Bs->Nat->Option (Nat×Nat)
 | 0,_,_,_=>none
 | n+1,s,last,i=>
  if i<s.length then
   let k:=(qji s i 10).getD s.length
   if(s.drop i).take (k-i)==last then some (i,min (k+1) s.length)else docD n s last (min (k+1) s.length)
  else none
def qez (s:Bs):List (Nat×Bs)->Nat->List Tok->Except Flt (List Tok×Nat)
 | [],i,toks=>.ok (toks,i)
 | (t,last)::ws,i,toks=>match docD (s.length+1) s last i with
  | none=>.error (19,s.length)
  | some (k,j)=>
   let x:=toks.getD t ⟨0,[],[],false,0⟩
   if x.quoted then qez s ws j (toks.set t {x with text:=(s.drop i).take (k-i)})
   else match qar (qcl s) (s.take k) 2 0 i [] []with
    | .error e=>.error e
    | .ok (l,_)=>qez s ws j (toks.set t {x with text:=(s.drop i).take (k-i),parts:=l})
def Part.kind:Part->Nat|.mk k _ _ _ _=>k
def Part.text:Part->Bs|.mk _ t _ _ _=>t
def qfq (s:Bs) (i:Nat):Nat:=
 let d:=if 48<=byt s i&&byt s i<=50&&(atD s (i+1) [60]||atD s (i+1) [62])then 1 else 0
 match marT.find? fun o=>atD s (i+d) o with
 | some o=>d+o.length
 | none=>0
def qm9:Nat->Bs->Nat->List Tok->List (Nat×Bs)->Except Flt (List Tok)
 | 0,_,_,_,_=>.error (0,0)
 | n+1,s,i0,toks,waits=>
  let i:=qgz (s.length+1) s i0
  if i<s.length then
   if byt s i=10 then match qez s waits (i+1) (toks++[⟨2,[],[],false,i⟩])with
    | .error e=>.error e
    | .ok (t,j)=>qm9 n s j t []
   else if byt s i=35 then qm9 n s ((qji s i 10).getD s.length) toks waits
   else if qfq s i≠0 then qm9 n s (i+qfq s i) (toks++[⟨1,(s.drop i).take (qfq s i),[],false,i⟩]) waits
   else if byt s i=38 then .error (19,i)
   else match qar (qcl s) s 0 0 i [] []with
    | .error e=>.error e
    | .ok (l,j)=>
     let doc:=match toks.getLast? with
      | some t=>t.kind==1&&(t.text.drop (t.text.length-2)==[60,60])
      | none=>false
     if doc then
      if l.any fun p=>p.kind != 0&&p.kind != 1 then .error (19,i)
      else qm9 n s j (toks++[⟨0,[],l,false,i⟩,⟨3,[],[],l.any fun p=>p.kind==1,i⟩]) (waits++[(toks.length+1,(l.map Part.text).flatten)])
     else qm9 n s j (toks++[⟨0,[],l,false,i⟩]) waits
  else if waits=[]then .ok toks else .error (19,s.length)
def qif (s:Bs):Except Flt (List Tok):=if 4000<s.length then .error (3,4000)else qm9 (s.length+1) s 0 [] []
end Go.Proofs.YtafbipadnnmccaaDoor.W
end
