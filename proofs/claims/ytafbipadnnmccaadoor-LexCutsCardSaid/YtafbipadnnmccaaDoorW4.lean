/-
  WHAT THE FUNCTIONS COME TO: each is read by the evaluator,printed,and told as a function of data,part 4 of 17 (no condition).
-/
import Derived.Test.YtafbipadnnmccaaDoorW3
import Derived.Test.YtafbipadnnmccaaDoorProg
import Derived.KernelRfl
noncomputable section
namespace Go.Proofs.YtafbipadnnmccaaDoor.W
open Go.Proofs.YtafbipadnnmccaaDoor.Ev
set_option maxRecDepth 100000
noncomputable section
def C9:Code:=Tryd.f9.body.getD .skip
def B9:D:=(qaq C9 [[],[],[],[],[],[],[],[],[0,3,4,5,6,7],[0,3,4,5,6,7],[],[0,3,4,5,6,7],[],[],[],[0,0,3,4,5,6,7],[0,3,4,5,6,7],[],[0,3,4,5],[],[],[0,3,4,5,6,7],[],[0,3,4,5,6,7],[],[0,0,3,4,5,6,7],[0,3,4,5,6,7],[0,3,4,5,6,7],[0,0,3,4,5,6,7],[0,3,4,5,6,7],[],[],[],[],[0,3,4,5,6,7,8],[],[0,3,4,7],[],[],[],[],[],[],[],[],[],[],[],[],[],[],[],[0,0,3,4,7],[0,3,4,5,6,7],[],[],[0,3,4,5,6,7],[0,0,3,4,5,6,7],[0,3,4,5,6,7],[],[],[0,0,3,4,5,6,7,15],[0,3,4,5,6,7],[],[],[],[],[0,3,4,5,6,7],[],[],[],[],[],[],[],[],[],[],[],[],[],[],[],[],[],[],[0,0,3,4,5],[2,3],[],[],[],[]]).1
def RL9:List Nat:=cellsOf Tryd.f9.results.toList
def R9_13 (self:EV) (N:Nat) (nk:Ac->St->Rs) (ek:Nat->Ac->St->Rs) (a:Ac) (S:St):Rs:=qak [0,3,4,5] a fun a=>dr E0 self RL9 N (B9.r.r.r.r.r.r).r (mkK E0 self Tryd.f9 nk ek) a S
theorem R9_13_eq (self:EV) (N:Nat) (nk:Ac->St->Rs) (ek:Nat->Ac->St->Rs) ( v0 v3 v4 v5:V) (S:St):R9_13 self N nk ek (fr 293 [(0,v0),(3,v3),(4,v4),(5,v5)]) S =
(lnS v5 S).bind fun p15=>
(qa4 E0 .gtr 3 false true p15.1 (.int .i64 0)).bind fun t16=>
ifK t16 (
(qbf v0 p15.2).bind fun p18=>
callP (self.f 28 [p18.1] p18.2) fun t19 S19=>
(stP 2 v3 t19 S19).bind fun p21=>
(ldrA 2 v3 p21.2).bind fun p22=>
some (.ret (.tuple [.nilslice,p22.1]),p22.2)) (
(qa7 E0 29 []).bind fun t24=>
(stP 2 v3 t24 p15.2).bind fun p26=>
(ldrA 2 v3 p26.2).bind fun p27=>
some (.ret (.tuple [v4,p27.1]),p27.2)):=by kernel_rfl
def qga (self:EV) (N:Nat) (nk:Ac->St->Rs) (ek:Nat->Ac->St->Rs) (n:Nat):Ac->St->Rs:=fun a S=>qak [0,3,4,5,6,7] a fun a=>qc3 [0,3,4,5,6,7] (dr E0 self RL9 N (B9.r.r.r.r.r.r.l.l.l)) (mkK E0 self Tryd.f9 nk ek) n a S
def L9_28 (self:EV) (N:Nat) (nk:Ac->St->Rs) (ek:Nat->Ac->St->Rs) (n:Nat) ( v0 v3 v4 v5 v6 v7:V) (S:St):Rs:=qc3 [0,3,4,5,6,7] (dr E0 self RL9 N (B9.r.r.r.r.r.r.l.l.l)) (mkK E0 self Tryd.f9 nk ek) n (fr 293 [(0,v0),(3,v3),(4,v4),(5,v5),(6,v6),(7,v7)]) S
def R9_29 (self:EV) (N:Nat) (nk:Ac->St->Rs) (ek:Nat->Ac->St->Rs) (a:Ac) (S:St):Rs:=qak [0,3,4,5,6,7] a fun a=>dr E0 self RL9 N (B9.r.r.r.r.r.r.l.l.l.l).r (mkK E0 self Tryd.f9 nk ek) a S
def R9_34 (self:EV) (N:Nat) (nk:Ac->St->Rs) (ek:Nat->Ac->St->Rs) (a:Ac) (S:St):Rs:=qak [0,3,4,5,6,7] a fun a=>dr E0 self RL9 N (B9.r.r.r.r.r.r.l.l.l.l.r.l.r).r (mkK E0 self Tryd.f9 nk ek) a S
def R9_35 (self:EV) (N:Nat) (nk:Ac->St->Rs) (ek:Nat->Ac->St->Rs) (a:Ac) (S:St):Rs:=qak [0,3,4,5,6,7] a fun a=>dr E0 self RL9 N (B9.r.r.r.r.r.r.l.l.l.l.r.l.r.r.l).r (mkK E0 self Tryd.f9 nk ek) a S
def R9_358 (self:EV) (N:Nat) (nk:Ac->St->Rs) (ek:Nat->Ac->St->Rs) (a:Ac) (S:St):Rs:=qak [0,3,4,7] a fun a=>dr E0 self RL9 N (B9.r.r.r.r.r.r.l.l.l.l.r.l.r.r.l.l.r.l.r.r).r (mkK E0 self Tryd.f9 nk ek) a S
theorem R9_358_eq (self:EV) (N:Nat) (nk:Ac->St->Rs) (ek:Nat->Ac->St->Rs) ( v0 v3 v4 v7:V) (S:St):R9_358 self N nk ek (fr 293 [(0,v0),(3,v3),(4,v4),(7,v7)]) S =
ek 1 (fr 293 [(0,v0),(3,v3),(4,v4),(5,.nilslice),(6,.nilslice),(7,v7)]) S:=by kernel_rfl
def L9_362 (self:EV) (N:Nat) (nk:Ac->St->Rs) (ek:Nat->Ac->St->Rs) (n:Nat) ( v0 v3 v4 v5 v6 v7 v8:V) (S:St):Rs:=qc3 [0,3,4,5,6,7,8] (dr E0 self RL9 N (B9.r.r.r.r.r.r.l.l.l.l.r.l.r.r.l.l.r.l.r.r.l.r.l.l)) (mkK E0 self Tryd.f9 nk ek) n (fr 293 [(0,v0),(3,v3),(4,v4),(5,v5),(6,v6),(7,v7),(8,v8)]) S
theorem L9_362_eq (self:EV) (N:Nat) (nk:Ac->St->Rs) (ek:Nat->Ac->St->Rs) (n:Nat) ( v0 v3 v4 v5 v6 v7 v8:V) (S:St):L9_362 self N nk ek (n+1) v0 v3 v4 v5 v6 v7 v8 S =
(lnS v5 S).bind fun p365=>
(qa4 E0 .lss 3 false false v8 p365.1).bind fun t366=>
ifK t366 (
(ixP 1 v6 v8).bind fun t371=>
(ld1 t371 p365.2).bind fun p372=>
callP (self.f 27 [v0,v7,p372.1] p372.2) fun t373 S373=>
(qa6 t373 0).bind fun t375=>
(qa6 t373 1).bind fun t376=>
(qa4 E0 .lss 3 false true t376 (.int .i64 0)).bind fun t380=>
ifK t380 (
(qbf v0 S373).bind fun p382=>
callP (self.f 28 [p382.1] p382.2) fun t383 S383=>
(stP 2 v3 t383 S383).bind fun p385=>
(ldrA 2 v3 p385.2).bind fun p386=>
some (.ret (.tuple [.nilslice,p386.1]),p386.2)) (
(ixP 1 v5 v8).bind fun t390=>
(ld1 t390 S373).bind fun p391=>
(ixP 5 v4 p391.1).bind fun t392=>
(qa2 t392).bind fun t396=>
(faP 1 false 1 t396).bind fun t397=>
(stP 1 t397 t375 p391.2).bind fun p398=>
(qa2 t392).bind fun t400=>
(faP 3 false 1 t400).bind fun t401=>
(ld1 t401 p398.2).bind fun p402=>
(unV .not p402.1).bind fun t403=>
ifK t403 (
callP (self.f 29 [t375,(.int .i64 0),(.int .i64 2),(.int .i64 0)] p402.2) fun t405 S405=>
(qa6 t405 0).bind fun t407=>
(qa6 t405 1).bind fun t408=>
(qa6 t405 2).bind fun t409=>
(some (nwP 29 2 (Tr.ofListFrom .nil [(.int .i64 0),(.int .i64 0)] 0) S405)).bind fun p410=>
(stP 2 p410.1 t409 p410.2).bind fun p413=>
(faP 0 false 1 p410.1).bind fun t414=>
(ld1 t414 p413.2).bind fun p415=>
(qa4 E0 .neq 27 false true p415.1 (.int .i64 0)).bind fun t416=>
ifK t416 (
(faP 1 false 1 p410.1).bind fun t417=>
(ld1 t417 p415.2).bind fun p418=>
(qa4 E0 .add 3 false false p418.1 v7).bind fun t420=>
(faP 1 false 1 p410.1).bind fun t421=>
(stP 1 t421 t420 p418.2).bind fun p422=>
(ldA 2 p410.1 (onS p422.2)).bind fun p423=>
(stP 2 v3 p423.1 (onS p423.2)).bind fun p425=>
(ldrA 2 v3 (qbk p422.2 p425.2 [p423.2.log,[],p425.2.log])).bind fun p426=>
some (.ret (.tuple [.nilslice,p426.1]),p426.2)) (
(qa2 t392).bind fun t429=>
(faP 2 false 1 t429).bind fun t430=>
(stP 1 t430 t407 p415.2).bind fun p431=>
(qa4 E0 .add 3 false true v8 (.int .i64 1)).bind fun t435=>
L9_362 self N nk ek n v0 v3 v4 v5 v6 t376 t435 p431.2)) (
(qa4 E0 .add 3 false true v8 (.int .i64 1)).bind fun t440=>
L9_362 self N nk ek n v0 v3 v4 v5 v6 t376 t440 p402.2))) (
ek 6 (fr 293 [(0,v0),(3,v3),(4,v4),(7,v7)]) p365.2):=by kernel_rfl
theorem R9_34_eq (self:EV) (N:Nat) (nk:Ac->St->Rs) (ek:Nat->Ac->St->Rs) ( v0 v3 v4 v5 v6 v7:V) (S:St):R9_34 self N nk ek (fr 293 [(0,v0),(3,v3),(4,v4),(5,v5),(6,v6),(7,v7)]) S =
(ixS v0 v7).bind fun t347=>
(qa4 E0 .eql 5 false true t347 (.int .u8 10)).bind fun t348=>
ifK t348 (
(qa7 E0 39 [(0,(.int .i64 2)),(4,v7)]).bind fun t351=>
(bsP 39 5 1 (Tr.ofListFrom .nil [(.int .i64 0),(sv []),.nilslice,(.bool false),(.int .i64 0)] 0) [(0,t351)] S).bind fun p352=>
(apP 39 5 64 v4 p352.1 p352.2).bind fun p353=>
(qa4 E0 .add 3 false true v7 (.int .i64 1)).bind fun t356=>
L9_362 self N (R9_358 self N (R9_35 self N (fun a s=>qak [0,3,4,5,6,7] a fun a=>nk a s) ek) ek) (exB 6 (R9_358 self N (R9_35 self N (fun a s=>qak [0,3,4,5,6,7] a fun a=>nk a s) ek) ek) ek) N v0 v3 p353.1 v5 v6 t356 (.int .i64 0) p353.2) (
R9_35 self N (fun a s=>qak [0,3,4,5,6,7] a fun a=>nk a s) ek (fr 293 [(0,v0),(3,v3),(4,v4),(5,v5),(6,v6),(7,v7)]) S):=by kernel_rfl
def R9_446 (self:EV) (N:Nat) (nk:Ac->St->Rs) (ek:Nat->Ac->St->Rs) (a:Ac) (S:St):Rs:=qak [0,3,4,5,6,7] a fun a=>dr E0 self RL9 N (B9.r.r.r.r.r.r.l.l.l.l.r.l.r.l.r.l).r (mkK E0 self Tryd.f9 nk ek) a S
theorem R9_446_eq (self:EV) (N:Nat) (nk:Ac->St->Rs) (ek:Nat->Ac->St->Rs) ( v0 v3 v4 v5 v6 v7:V) (S:St):R9_446 self N nk ek (fr 293 [(0,v0),(3,v3),(4,v4),(5,v5),(6,v6),(7,v7)]) S =
ek 1 (fr 293 [(0,v0),(3,v3),(4,v4),(5,v5),(6,v6),(7,v7)]) S:=by kernel_rfl
def L9_447 (self:EV) (N:Nat) (nk:Ac->St->Rs) (ek:Nat->Ac->St->Rs) (n:Nat) ( v0 v3 v4 v5 v6 v7:V) (S:St):Rs:=qc3 [0,3,4,5,6,7] (dr E0 self RL9 N (B9.r.r.r.r.r.r.l.l.l.l.r.l.r.l.r.l.l.l.l)) (mkK E0 self Tryd.f9 nk ek) n (fr 293 [(0,v0),(3,v3),(4,v4),(5,v5),(6,v6),(7,v7)]) S
theorem L9_447_eq (self:EV) (N:Nat) (nk:Ac->St->Rs) (ek:Nat->Ac->St->Rs) (n:Nat) ( v0 v3 v4 v5 v6 v7:V) (S:St):L9_447 self N nk ek (n+1) v0 v3 v4 v5 v6 v7 S =
(qbf v0 S).bind fun p450=>
(qa4 E0 .lss 3 false false v7 p450.1).bind fun t451=>
(qa0 true t451).bind fun g453=>(bif g453 then some v0 else some (.tuple [])).bind fun t453=>
(qa0 true t451).bind fun g454=>(bif g454 then some v7 else some (.tuple [])).bind fun t454=>
(qa0 true t451).bind fun g455=>(bif g455 then ixS t453 t454 else some (.tuple [])).bind fun t455=>
(qa0 true t451).bind fun g456=>(bif g456 then qa4 E0 .neq 5 false true t455 (.int .u8 10)else some (.tuple [])).bind fun t456=>
(qac t451 (some t456) (some (.bool false))).bind fun t457=>
ifK t457 (
(qa4 E0 .add 3 false true v7 (.int .i64 1)).bind fun t459=>
L9_447 self N nk ek n v0 v3 v4 v5 v6 t459 p450.2) (
ek 4 (fr 293 [(0,v0),(3,v3),(4,v4),(5,v5),(6,v6),(7,v7)]) p450.2):=by kernel_rfl
theorem R9_29_eq (self:EV) (N:Nat) (nk:Ac->St->Rs) (ek:Nat->Ac->St->Rs) ( v0 v3 v4 v5 v6 v7:V) (S:St):R9_29 self N nk ek (fr 293 [(0,v0),(3,v3),(4,v4),(5,v5),(6,v6),(7,v7)]) S =
(qbf v0 S).bind fun p32=>
(qa4 E0 .geq 3 false false v7 p32.1).bind fun t33=>
ifK t33 (
ek 0 (fr 293 [(0,v0),(3,v3),(4,v4),(5,v5)]) p32.2) (
(ixS v0 v7).bind fun t444=>
(qa4 E0 .eql 5 false true t444 (.int .u8 35)).bind fun t445=>
ifK t445 (
L9_447 self N (R9_446 self N (R9_34 self N (fun a s=>qak [0,3,4,5,6,7] a fun a=>nk a s) ek) ek) (exB 4 (R9_446 self N (R9_34 self N (fun a s=>qak [0,3,4,5,6,7] a fun a=>nk a s) ek) ek) ek) N v0 v3 v4 v5 v6 v7 p32.2) (
R9_34 self N (fun a s=>qak [0,3,4,5,6,7] a fun a=>nk a s) ek (fr 293 [(0,v0),(3,v3),(4,v4),(5,v5),(6,v6),(7,v7)]) p32.2)):=by kernel_rfl
def L9_461 (self:EV) (N:Nat) (nk:Ac->St->Rs) (ek:Nat->Ac->St->Rs) (n:Nat) ( v0 v3 v4 v5 v6 v7:V) (S:St):Rs:=qc3 [0,3,4,5,6,7] (dr E0 self RL9 N (B9.r.r.r.r.r.r.l.l.l.l.l.l.l)) (mkK E0 self Tryd.f9 nk ek) n (fr 293 [(0,v0),(3,v3),(4,v4),(5,v5),(6,v6),(7,v7)]) S
theorem L9_461_eq (self:EV) (N:Nat) (nk:Ac->St->Rs) (ek:Nat->Ac->St->Rs) (n:Nat) ( v0 v3 v4 v5 v6 v7:V) (S:St):L9_461 self N nk ek (n+1) v0 v3 v4 v5 v6 v7 S =
(qbf v0 S).bind fun p464=>
(qa4 E0 .lss 3 false false v7 p464.1).bind fun t465=>
(qa0 true t465).bind fun g467=>(bif g467 then some v0 else some (.tuple [])).bind fun t467=>
(qa0 true t465).bind fun g468=>(bif g468 then some v7 else some (.tuple [])).bind fun t468=>
(qa0 true t465).bind fun g469=>(bif g469 then ixS t467 t468 else some (.tuple [])).bind fun t469=>
(qa0 true t465).bind fun g470=>(bif g470 then qa4 E0 .eql 5 false true t469 (.int .u8 32)else some (.tuple [])).bind fun t470=>
(qa0 true t465).bind fun g471=>(bif g471 then some t470 else some (.tuple [])).bind fun t471=>
(qa0 false t471).bind fun g472=>(bif g472 then some v0 else some (.tuple [])).bind fun t472=>
(qa0 false t471).bind fun g473=>(bif g473 then some v7 else some (.tuple [])).bind fun t473=>
(qa0 false t471).bind fun g474=>(bif g474 then ixS t472 t473 else some (.tuple [])).bind fun t474=>
(qa0 false t471).bind fun g475=>(bif g475 then qa4 E0 .eql 5 false true t474 (.int .u8 9)else some (.tuple [])).bind fun t475=>
(qa0 true t465).bind fun g476=>(bif g476 then qac t471 (some (.bool true)) (some t475)else some (.tuple [])).bind fun t476=>
(qa0 true t465).bind fun g477=>(bif g477 then some t476 else some (.tuple [])).bind fun t477=>
(qa0 false t477).bind fun g478=>(bif g478 then some v0 else some (.tuple [])).bind fun t478=>
(qa0 false t477).bind fun g479=>(bif g479 then some v7 else some (.tuple [])).bind fun t479=>
(qa0 false t477).bind fun g480=>callP (bif g480 then self.f 26 [t478,t479,(sv [92,10])] p464.2 else some (.ret (.tuple []),p464.2)) fun t480 S480=>
(qa0 true t465).bind fun g481=>(bif g481 then qac t477 (some (.bool true)) (some t480)else some (.tuple [])).bind fun t481=>
(qac t465 (some t481) (some (.bool false))).bind fun t482=>
ifK t482 (
(ixS v0 v7).bind fun t485=>
(qa4 E0 .eql 5 false true t485 (.int .u8 92)).bind fun t486=>
ifK t486 (
(qa4 E0 .add 3 false true v7 (.int .i64 1)).bind fun t488=>
(qa4 E0 .add 3 false true t488 (.int .i64 1)).bind fun t491=>
L9_461 self N nk ek n v0 v3 v4 v5 v6 t491 S480) (
(qa4 E0 .add 3 false true v7 (.int .i64 1)).bind fun t494=>
L9_461 self N nk ek n v0 v3 v4 v5 v6 t494 S480)) (
ek 2 (fr 293 [(0,v0),(3,v3),(4,v4),(5,v5),(6,v6),(7,v7)]) S480):=by kernel_rfl
theorem L9_28_eq (self:EV) (N:Nat) (nk:Ac->St->Rs) (ek:Nat->Ac->St->Rs) (n:Nat) ( v0 v3 v4 v5 v6 v7:V) (S:St):L9_28 self N nk ek (n+1) v0 v3 v4 v5 v6 v7 S =
L9_461 self N (R9_29 self N (qga self N nk ek n) (exB 1 (qga self N nk ek n) ek)) (exB 2 (R9_29 self N (qga self N nk ek n) (exB 1 (qga self N nk ek n) ek)) (exB 1 (qga self N nk ek n) ek)) N v0 v3 v4 v5 v6 v7 S:=by kernel_rfl
theorem N9_28_eq (self:EV) (N:Nat) (nk:Ac->St->Rs) (ek:Nat->Ac->St->Rs) (n:Nat) ( v0 v3 v4 v5 v6 v7:V) (S:St):qga self N nk ek n (fr 293 [(0,v0),(3,v3),(4,v4),(5,v5),(6,v6),(7,v7)]) S=L9_28 self N nk ek n v0 v3 v4 v5 v6 v7 S:=by kernel_rfl
def F9 (self:EV) (N:Nat) (x0:V) (S:St):Rs:=qd4 E0 self N Tryd.f9 B9 [x0] S
theorem F9_eq (self:EV) (N:Nat) (x0:V) (S:St):F9 self N x0 S =
(some (nwP 29 2 (Tr.ofListFrom .nil [(.int .i64 0),(.int .i64 0)] 0) S)).bind fun p1=>
(qbf x0 p1.2).bind fun p3=>
(qa4 E0 .gtr 3 false true p3.1 (.int .i64 4000)).bind fun t4=>
ifK t4 (
(qa7 E0 29 [(0,(.int .i64 3)),(1,(.int .i64 4000))]).bind fun t5=>
(stP 2 p1.1 t5 p3.2).bind fun p7=>
(ldrA 2 p1.1 p7.2).bind fun p8=>
some (.ret (.tuple [.nilslice,p8.1]),p8.2)) (
L9_28 self N (R9_13 self N (qbt E0 self Tryd.f9) qas) (exB 0 (R9_13 self N (qbt E0 self Tryd.f9) qas) qas) N x0 p1.1 .nilslice .nilslice .nilslice (.int .i64 0) p3.2):=by kernel_rfl
end
noncomputable section
def C11:Code:=Tryd.f11.body.getD .skip
def B11:D:=(qaq C11 [[],[],[],[],[],[0,1,5],[],[],[],[],[],[],[0],[4],[]]).1
def RL11:List Nat:=cellsOf Tryd.f11.results.toList
def R11_7 (self:EV) (N:Nat) (nk:Ac->St->Rs) (ek:Nat->Ac->St->Rs) (a:Ac) (S:St):Rs:=qak [] a fun a=>dr E0 self RL11 N (B11.r.r).r (mkK E0 self Tryd.f11 nk ek) a S
theorem R11_7_eq (self:EV) (N:Nat) (nk:Ac->St->Rs) (ek:Nat->Ac->St->Rs) (S:St):R11_7 self N nk ek (fr 81 []) S =
some (.ret (.bool true),S):=by kernel_rfl
def L11_10 (self:EV) (N:Nat) (nk:Ac->St->Rs) (ek:Nat->Ac->St->Rs) (n:Nat) ( v0 v1 v5:V) (S:St):Rs:=qc3 [0,1,5] (dr E0 self RL11 N (B11.r.r.l.r.l.l)) (mkK E0 self Tryd.f11 nk ek) n (fr 81 [(0,v0),(1,v1),(5,v5)]) S
theorem L11_10_eq (self:EV) (N:Nat) (nk:Ac->St->Rs) (ek:Nat->Ac->St->Rs) (n:Nat) ( v0 v1 v5:V) (S:St):L11_10 self N nk ek (n+1) v0 v1 v5 S =
(lnS v0 S).bind fun p13=>
(qa4 E0 .lss 3 false false v5 p13.1).bind fun t14=>
ifK t14 (
(ixP 5 v0 v5).bind fun t17=>
(faP 0 false 1 t17).bind fun t18=>
(ld1 t18 (onS p13.2)).bind fun p19=>
(ixP 5 v1 v5).bind fun t22=>
(faP 0 false 1 t22).bind fun t23=>
(ld1 t23 (onS p19.2)).bind fun p24=>
(qa4 E0 .neq 3 false false p19.1 p24.1).bind fun t25=>
(qa0 false t25).bind fun g27=>(bif g27 then some v0 else some (.tuple [])).bind fun t27=>
(qa0 false t25).bind fun g28=>(bif g28 then some v5 else some (.tuple [])).bind fun t28=>
(qa0 false t25).bind fun g29=>(bif g29 then ixP 5 t27 t28 else some (.tuple [])).bind fun t29=>
(qa0 false t25).bind fun g30=>(bif g30 then faP 1 false 1 t29 else some (.tuple [])).bind fun t30=>
(qa0 false t25).bind fun g31=>(bif g31 then ld1 t30 (onS p24.2)else some (.tuple [],(onS p24.2))).bind fun p31=>
(qa0 false t25).bind fun g32=>(bif g32 then some v1 else some (.tuple [])).bind fun t32=>
(qa0 false t25).bind fun g33=>(bif g33 then some v5 else some (.tuple [])).bind fun t33=>
(qa0 false t25).bind fun g34=>(bif g34 then ixP 5 t32 t33 else some (.tuple [])).bind fun t34=>
(qa0 false t25).bind fun g35=>(bif g35 then faP 1 false 1 t34 else some (.tuple [])).bind fun t35=>
(qa0 false t25).bind fun g36=>(bif g36 then ld1 t35 (onS p31.2)else some (.tuple [],(onS p31.2))).bind fun p36=>
(qa0 false t25).bind fun g37=>(bif g37 then qa4 E0 .neq 9 false false p31.1 p36.1 else some (.tuple [])).bind fun t37=>
(qac t25 (some (.bool true)) (some t37)).bind fun t38=>
(qa0 false t38).bind fun g40=>(bif g40 then some v0 else some (.tuple [])).bind fun t40=>
(qa0 false t38).bind fun g41=>(bif g41 then some v5 else some (.tuple [])).bind fun t41=>
(qa0 false t38).bind fun g42=>(bif g42 then ixP 5 t40 t41 else some (.tuple [])).bind fun t42=>
(qa0 false t38).bind fun g43=>(bif g43 then faP 3 false 1 t42 else some (.tuple [])).bind fun t43=>
(qa0 false t38).bind fun g44=>(bif g44 then ld1 t43 (onS p36.2)else some (.tuple [],(onS p36.2))).bind fun p44=>
(qa0 false t38).bind fun g45=>(bif g45 then some v1 else some (.tuple [])).bind fun t45=>
(qa0 false t38).bind fun g46=>(bif g46 then some v5 else some (.tuple [])).bind fun t46=>
(qa0 false t38).bind fun g47=>(bif g47 then ixP 5 t45 t46 else some (.tuple [])).bind fun t47=>
(qa0 false t38).bind fun g48=>(bif g48 then faP 3 false 1 t47 else some (.tuple [])).bind fun t48=>
(qa0 false t38).bind fun g49=>(bif g49 then ld1 t48 (onS p44.2)else some (.tuple [],(onS p44.2))).bind fun p49=>
(qa0 false t38).bind fun g50=>(bif g50 then qa4 E0 .neq 4 false false p44.1 p49.1 else some (.tuple [])).bind fun t50=>
(qac t38 (some (.bool true)) (some t50)).bind fun t51=>
(qa0 false t51).bind fun g53=>(bif g53 then some v0 else some (.tuple [])).bind fun t53=>
(qa0 false t51).bind fun g54=>(bif g54 then some v5 else some (.tuple [])).bind fun t54=>
(qa0 false t51).bind fun g55=>(bif g55 then ixP 5 t53 t54 else some (.tuple [])).bind fun t55=>
(qa0 false t51).bind fun g56=>(bif g56 then faP 4 false 1 t55 else some (.tuple [])).bind fun t56=>
(qa0 false t51).bind fun g57=>(bif g57 then ld1 t56 (onS p49.2)else some (.tuple [],(onS p49.2))).bind fun p57=>
(qa0 false t51).bind fun g58=>(bif g58 then some v1 else some (.tuple [])).bind fun t58=>
(qa0 false t51).bind fun g59=>(bif g59 then some v5 else some (.tuple [])).bind fun t59=>
(qa0 false t51).bind fun g60=>(bif g60 then ixP 5 t58 t59 else some (.tuple [])).bind fun t60=>
(qa0 false t51).bind fun g61=>(bif g61 then faP 4 false 1 t60 else some (.tuple [])).bind fun t61=>
(qa0 false t51).bind fun g62=>(bif g62 then ld1 t61 (onS p57.2)else some (.tuple [],(onS p57.2))).bind fun p62=>
(qa0 false t51).bind fun g63=>(bif g63 then qa4 E0 .neq 3 false false p57.1 p62.1 else some (.tuple [])).bind fun t63=>
(qac t51 (some (.bool true)) (some t63)).bind fun t64=>
(qa0 false t64).bind fun g66=>(bif g66 then some v0 else some (.tuple [])).bind fun t66=>
(qa0 false t64).bind fun g67=>(bif g67 then some v5 else some (.tuple [])).bind fun t67=>
(qa0 false t64).bind fun g68=>(bif g68 then ixP 5 t66 t67 else some (.tuple [])).bind fun t68=>
(qa0 false t64).bind fun g69=>(bif g69 then faP 2 false 1 t68 else some (.tuple [])).bind fun t69=>
(qa0 false t64).bind fun g70=>(bif g70 then ld1 t69 (onS p62.2)else some (.tuple [],(onS p62.2))).bind fun p70=>
(qa0 false t64).bind fun g71=>(bif g71 then some v1 else some (.tuple [])).bind fun t71=>
(qa0 false t64).bind fun g72=>(bif g72 then some v5 else some (.tuple [])).bind fun t72=>
(qa0 false t64).bind fun g73=>(bif g73 then ixP 5 t71 t72 else some (.tuple [])).bind fun t73=>
(qa0 false t64).bind fun g74=>(bif g74 then faP 2 false 1 t73 else some (.tuple [])).bind fun t74=>
(qa0 false t64).bind fun g75=>(bif g75 then ld1 t74 (onS p70.2)else some (.tuple [],(onS p70.2))).bind fun p75=>
(qa0 false t64).bind fun g76=>qkp (qax E0 (B11.r.r.l.r.l.l.r.l.l.l).ops) p13.2 61 [[],[],[],[],p19.2.log,[],[],[],[],p24.2.log,[],[],[],[],[],[],p31.2.log,[],[],[],[],p36.2.log,[],[],[],[],[],[],[],p44.2.log,[],[],[],[],p49.2.log,[],[],[],[],[],[],[],p57.2.log,[],[],[],[],p62.2.log,[],[],[],[],[],[],[],p70.2.log,[],[],[],[],p75.2.log] (bif g76 then self.f 34 [p70.1,p75.1] (onS p75.2)else some (.ret (.tuple []),(onS p75.2))) fun t76 S76=>
(qa0 false t64).bind fun g77=>(bif g77 then unV .not t76 else some (.tuple [])).bind fun t77=>
(qac t64 (some (.bool true)) (some t77)).bind fun t78=>
qhh [(4,[9]),(16,[21]),(29,[34]),(42,[47]),(55,[60])] p13.2 [[],[],[],[],p19.2.log,[],[],[],[],p24.2.log,[],[],[],[],[],[],p31.2.log,[],[],[],[],p36.2.log,[],[],[],[],[],[],[],p44.2.log,[],[],[],[],p49.2.log,[],[],[],[],[],[],[],p57.2.log,[],[],[],[],p62.2.log,[],[],[],[],[],[],[],p70.2.log,[],[],[],[],p75.2.log,S76.log,[],[]] (onS S76) fun S79=>
ifK t78 (
some (.ret (.bool false),S79)) (
(qa4 E0 .add 3 false true v5 (.int .i64 1)).bind fun t82=>
L11_10 self N nk ek n v0 v1 t82 S79)) (
ek 0 (fr 81 []) p13.2):=by kernel_rfl
def F11 (self:EV) (N:Nat) (x0 x1:V) (S:St):Rs:=qd4 E0 self N Tryd.f11 B11 [x0,x1] S
theorem F11_eq (self:EV) (N:Nat) (x0 x1:V) (S:St):F11 self N x0 x1 S =
(lnS x0 S).bind fun p2=>
(lnS x1 p2.2).bind fun p4=>
(qa4 E0 .neq 3 false false p2.1 p4.1).bind fun t5=>
ifK t5 (
some (.ret (.bool false),p4.2)) (
L11_10 self N (R11_7 self N (qbt E0 self Tryd.f11) qas) (exB 0 (R11_7 self N (qbt E0 self Tryd.f11) qas) qas) N x0 x1 (.int .i64 0) p4.2):=by kernel_rfl
def C34:Code:=Tryd.f34.body.getD .skip
def B34:D:=(qaq C34 [[],[],[],[],[],[0,1,5],[],[],[],[],[],[],[0],[4],[]]).1
def RL34:List Nat:=cellsOf Tryd.f34.results.toList
def R34_7 (self:EV) (N:Nat) (nk:Ac->St->Rs) (ek:Nat->Ac->St->Rs) (a:Ac) (S:St):Rs:=qak [] a fun a=>dr E0 self RL34 N (B34.r.r).r (mkK E0 self Tryd.f34 nk ek) a S
theorem R34_7_eq (self:EV) (N:Nat) (nk:Ac->St->Rs) (ek:Nat->Ac->St->Rs) (S:St):R34_7 self N nk ek (fr 81 []) S =
some (.ret (.bool true),S):=by kernel_rfl
def L34_10 (self:EV) (N:Nat) (nk:Ac->St->Rs) (ek:Nat->Ac->St->Rs) (n:Nat) ( v0 v1 v5:V) (S:St):Rs:=qc3 [0,1,5] (dr E0 self RL34 N (B34.r.r.l.r.l.l)) (mkK E0 self Tryd.f34 nk ek) n (fr 81 [(0,v0),(1,v1),(5,v5)]) S
theorem L34_10_eq (self:EV) (N:Nat) (nk:Ac->St->Rs) (ek:Nat->Ac->St->Rs) (n:Nat) ( v0 v1 v5:V) (S:St):L34_10 self N nk ek (n+1) v0 v1 v5 S =
(lnS v0 S).bind fun p13=>
(qa4 E0 .lss 3 false false v5 p13.1).bind fun t14=>
ifK t14 (
(ixP 6 v0 v5).bind fun t17=>
(faP 0 false 1 t17).bind fun t18=>
(ld1 t18 (onS p13.2)).bind fun p19=>
(ixP 6 v1 v5).bind fun t22=>
(faP 0 false 1 t22).bind fun t23=>
(ld1 t23 (onS p19.2)).bind fun p24=>
(qa4 E0 .neq 3 false false p19.1 p24.1).bind fun t25=>
(qa0 false t25).bind fun g27=>(bif g27 then some v0 else some (.tuple [])).bind fun t27=>
(qa0 false t25).bind fun g28=>(bif g28 then some v5 else some (.tuple [])).bind fun t28=>
(qa0 false t25).bind fun g29=>(bif g29 then ixP 6 t27 t28 else some (.tuple [])).bind fun t29=>
(qa0 false t25).bind fun g30=>(bif g30 then faP 1 false 1 t29 else some (.tuple [])).bind fun t30=>
(qa0 false t25).bind fun g31=>(bif g31 then ld1 t30 (onS p24.2)else some (.tuple [],(onS p24.2))).bind fun p31=>
(qa0 false t25).bind fun g32=>(bif g32 then some v1 else some (.tuple [])).bind fun t32=>
(qa0 false t25).bind fun g33=>(bif g33 then some v5 else some (.tuple [])).bind fun t33=>
(qa0 false t25).bind fun g34=>(bif g34 then ixP 6 t32 t33 else some (.tuple [])).bind fun t34=>
(qa0 false t25).bind fun g35=>(bif g35 then faP 1 false 1 t34 else some (.tuple [])).bind fun t35=>
(qa0 false t25).bind fun g36=>(bif g36 then ld1 t35 (onS p31.2)else some (.tuple [],(onS p31.2))).bind fun p36=>
(qa0 false t25).bind fun g37=>(bif g37 then qa4 E0 .neq 9 false false p31.1 p36.1 else some (.tuple [])).bind fun t37=>
(qac t25 (some (.bool true)) (some t37)).bind fun t38=>
(qa0 false t38).bind fun g40=>(bif g40 then some v0 else some (.tuple [])).bind fun t40=>
(qa0 false t38).bind fun g41=>(bif g41 then some v5 else some (.tuple [])).bind fun t41=>
(qa0 false t38).bind fun g42=>(bif g42 then ixP 6 t40 t41 else some (.tuple [])).bind fun t42=>
(qa0 false t38).bind fun g43=>(bif g43 then faP 2 false 1 t42 else some (.tuple [])).bind fun t43=>
(qa0 false t38).bind fun g44=>(bif g44 then ld1 t43 (onS p36.2)else some (.tuple [],(onS p36.2))).bind fun p44=>
(qa0 false t38).bind fun g45=>(bif g45 then some v1 else some (.tuple [])).bind fun t45=>
(qa0 false t38).bind fun g46=>(bif g46 then some v5 else some (.tuple [])).bind fun t46=>
(qa0 false t38).bind fun g47=>(bif g47 then ixP 6 t45 t46 else some (.tuple [])).bind fun t47=>
(qa0 false t38).bind fun g48=>(bif g48 then faP 2 false 1 t47 else some (.tuple [])).bind fun t48=>
(qa0 false t38).bind fun g49=>(bif g49 then ld1 t48 (onS p44.2)else some (.tuple [],(onS p44.2))).bind fun p49=>
(qa0 false t38).bind fun g50=>(bif g50 then qa4 E0 .neq 9 false false p44.1 p49.1 else some (.tuple [])).bind fun t50=>
(qac t38 (some (.bool true)) (some t50)).bind fun t51=>
(qa0 false t51).bind fun g53=>(bif g53 then some v0 else some (.tuple [])).bind fun t53=>
(qa0 false t51).bind fun g54=>(bif g54 then some v5 else some (.tuple [])).bind fun t54=>
(qa0 false t51).bind fun g55=>(bif g55 then ixP 6 t53 t54 else some (.tuple [])).bind fun t55=>
(qa0 false t51).bind fun g56=>(bif g56 then faP 3 false 1 t55 else some (.tuple [])).bind fun t56=>
(qa0 false t51).bind fun g57=>(bif g57 then ld1 t56 (onS p49.2)else some (.tuple [],(onS p49.2))).bind fun p57=>
(qa0 false t51).bind fun g58=>(bif g58 then some v1 else some (.tuple [])).bind fun t58=>
(qa0 false t51).bind fun g59=>(bif g59 then some v5 else some (.tuple [])).bind fun t59=>
(qa0 false t51).bind fun g60=>(bif g60 then ixP 6 t58 t59 else some (.tuple [])).bind fun t60=>
(qa0 false t51).bind fun g61=>(bif g61 then faP 3 false 1 t60 else some (.tuple [])).bind fun t61=>
(qa0 false t51).bind fun g62=>(bif g62 then ld1 t61 (onS p57.2)else some (.tuple [],(onS p57.2))).bind fun p62=>
(qa0 false t51).bind fun g63=>(bif g63 then qa4 E0 .neq 4 false false p57.1 p62.1 else some (.tuple [])).bind fun t63=>
(qac t51 (some (.bool true)) (some t63)).bind fun t64=>
(qa0 false t64).bind fun g66=>(bif g66 then some v0 else some (.tuple [])).bind fun t66=>
(qa0 false t64).bind fun g67=>(bif g67 then some v5 else some (.tuple [])).bind fun t67=>
(qa0 false t64).bind fun g68=>(bif g68 then ixP 6 t66 t67 else some (.tuple [])).bind fun t68=>
(qa0 false t64).bind fun g69=>(bif g69 then faP 4 false 1 t68 else some (.tuple [])).bind fun t69=>
(qa0 false t64).bind fun g70=>(bif g70 then ld1 t69 (onS p62.2)else some (.tuple [],(onS p62.2))).bind fun p70=>
(qa0 false t64).bind fun g71=>(bif g71 then some v1 else some (.tuple [])).bind fun t71=>
(qa0 false t64).bind fun g72=>(bif g72 then some v5 else some (.tuple [])).bind fun t72=>
(qa0 false t64).bind fun g73=>(bif g73 then ixP 6 t71 t72 else some (.tuple [])).bind fun t73=>
(qa0 false t64).bind fun g74=>(bif g74 then faP 4 false 1 t73 else some (.tuple [])).bind fun t74=>
(qa0 false t64).bind fun g75=>(bif g75 then ld1 t74 (onS p70.2)else some (.tuple [],(onS p70.2))).bind fun p75=>
(qa0 false t64).bind fun g76=>qkp (qax E0 (B34.r.r.l.r.l.l.r.l.l.l).ops) p13.2 61 [[],[],[],[],p19.2.log,[],[],[],[],p24.2.log,[],[],[],[],[],[],p31.2.log,[],[],[],[],p36.2.log,[],[],[],[],[],[],[],p44.2.log,[],[],[],[],p49.2.log,[],[],[],[],[],[],[],p57.2.log,[],[],[],[],p62.2.log,[],[],[],[],[],[],[],p70.2.log,[],[],[],[],p75.2.log] (bif g76 then self.f 34 [p70.1,p75.1] (onS p75.2)else some (.ret (.tuple []),(onS p75.2))) fun t76 S76=>
(qa0 false t64).bind fun g77=>(bif g77 then unV .not t76 else some (.tuple [])).bind fun t77=>
(qac t64 (some (.bool true)) (some t77)).bind fun t78=>
qhh [(4,[9]),(16,[21]),(29,[34]),(42,[47]),(55,[60])] p13.2 [[],[],[],[],p19.2.log,[],[],[],[],p24.2.log,[],[],[],[],[],[],p31.2.log,[],[],[],[],p36.2.log,[],[],[],[],[],[],[],p44.2.log,[],[],[],[],p49.2.log,[],[],[],[],[],[],[],p57.2.log,[],[],[],[],p62.2.log,[],[],[],[],[],[],[],p70.2.log,[],[],[],[],p75.2.log,S76.log,[],[]] (onS S76) fun S79=>
ifK t78 (
some (.ret (.bool false),S79)) (
(qa4 E0 .add 3 false true v5 (.int .i64 1)).bind fun t82=>
L34_10 self N nk ek n v0 v1 t82 S79)) (
ek 0 (fr 81 []) p13.2):=by kernel_rfl
def F34 (self:EV) (N:Nat) (x0 x1:V) (S:St):Rs:=qd4 E0 self N Tryd.f34 B34 [x0,x1] S
theorem F34_eq (self:EV) (N:Nat) (x0 x1:V) (S:St):F34 self N x0 x1 S =
(lnS x0 S).bind fun p2=>
(lnS x1 p2.2).bind fun p4=>
(qa4 E0 .neq 3 false false p2.1 p4.1).bind fun t5=>
ifK t5 (
some (.ret (.bool false),p4.2)) (
L34_10 self N (R34_7 self N (qbt E0 self Tryd.f34) qas) (exB 0 (R34_7 self N (qbt E0 self Tryd.f34) qas) qas) N x0 x1 (.int .i64 0) p4.2):=by kernel_rfl
def C10:Code:=Tryd.f10.body.getD .skip
def B10:D:=(qaq C10 [[],[],[],[],[],[]]).1
def F10 (self:EV) (N:Nat) (x0 x1:V) (S:St):Rs:=qd4 E0 self N Tryd.f10 B10 [x0,x1] S
theorem F10_eq (self:EV) (N:Nat) (x0 x1:V) (S:St):F10 self N x0 x1 S =
(boxK 29 x1 S).bind fun p0=>
(qa4 E0 .eql 24 false true x0 .niliface).bind fun t3=>
(qa0 false t3).bind fun g5=>(bif g5 then faP 0 false 1 p0.1 else some (.tuple [])).bind fun t5=>
(qa0 false t3).bind fun g6=>(bif g6 then ld1 t5 p0.2 else some (.tuple [],p0.2)).bind fun p6=>
(qa0 false t3).bind fun g7=>(bif g7 then qa4 E0 .eql 27 false true p6.1 (.int .i64 0)else some (.tuple [])).bind fun t7=>
(qac t3 (some (.bool true)) (some t7)).bind fun t8=>
ifK t8 (
(qa4 E0 .eql 24 false true x0 .niliface).bind fun t10=>
(qa0 true t10).bind fun g12=>(bif g12 then faP 0 false 1 p0.1 else some (.tuple [])).bind fun t12=>
(qa0 true t10).bind fun g13=>(bif g13 then ld1 t12 p6.2 else some (.tuple [],p6.2)).bind fun p13=>
(qa0 true t10).bind fun g14=>(bif g14 then qa4 E0 .eql 27 false true p13.1 (.int .i64 0)else some (.tuple [])).bind fun t14=>
(qac t10 (some t14) (some (.bool false))).bind fun t15=>
some (.ret t15,p13.2)) (
(some (nwP 51 1 (Ev.one .nilptr) p6.2)).bind fun p17=>
qkp (qax E0 (B10.r.r.r.l).ops) p17.2 2 [[],[]] (self.f 32 [x0,(.iface 71 p17.1)] (onS p17.2)) fun t20 S20=>
(qa0 true t20).bind fun g22=>(bif g22 then ld1 p17.1 (onS S20)else some (.tuple [],(onS S20))).bind fun p22=>
(qa0 true t20).bind fun g23=>(bif g23 then qa2 p22.1 else some (.tuple [])).bind fun t23=>
(qa0 true t20).bind fun g24=>(bif g24 then faP 0 false 1 t23 else some (.tuple [])).bind fun t24=>
(qa0 true t20).bind fun g25=>(bif g25 then ld1 t24 (onS p22.2)else some (.tuple [],(onS p22.2))).bind fun p25=>
(qa0 true t20).bind fun g26=>(bif g26 then faP 0 false 1 p0.1 else some (.tuple [])).bind fun t26=>
(qa0 true t20).bind fun g27=>(bif g27 then ld1 t26 (onS p25.2)else some (.tuple [],(onS p25.2))).bind fun p27=>
(qa0 true t20).bind fun g28=>(bif g28 then qa4 E0 .eql 27 false false p25.1 p27.1 else some (.tuple [])).bind fun t28=>
(qac t20 (some t28) (some (.bool false))).bind fun t29=>
(qa0 true t29).bind fun g31=>(bif g31 then ld1 p17.1 (onS p27.2)else some (.tuple [],(onS p27.2))).bind fun p31=>
(qa0 true t29).bind fun g32=>(bif g32 then qa2 p31.1 else some (.tuple [])).bind fun t32=>
(qa0 true t29).bind fun g33=>(bif g33 then faP 1 false 1 t32 else some (.tuple [])).bind fun t33=>
(qa0 true t29).bind fun g34=>(bif g34 then ld1 t33 (onS p31.2)else some (.tuple [],(onS p31.2))).bind fun p34=>
(qa0 true t29).bind fun g35=>(bif g35 then faP 1 false 1 p0.1 else some (.tuple [])).bind fun t35=>
(qa0 true t29).bind fun g36=>(bif g36 then ld1 t35 (onS p34.2)else some (.tuple [],(onS p34.2))).bind fun p36=>
(qa0 true t29).bind fun g37=>(bif g37 then qa4 E0 .eql 3 false false p34.1 p36.1 else some (.tuple [])).bind fun t37=>
(qac t29 (some t37) (some (.bool false))).bind fun t38=>
(qa0 true t38).bind fun g40=>(bif g40 then some x0 else some (.tuple [])).bind fun t40=>
(qa0 true t38).bind fun g41=>(bif g41 then faP 0 false 1 p0.1 else some (.tuple [])).bind fun t41=>
(qa0 true t38).bind fun g42=>(bif g42 then ld1 t41 (onS p36.2)else some (.tuple [],(onS p36.2))).bind fun p42=>
(qa0 true t38).bind fun g43=>(bif g43 then some (.iface 27 p42.1)else some (.tuple [])).bind fun t43=>
(qa0 true t38).bind fun g44=>qkp (qax E0 (B10.r.r.r.l).ops) p17.2 26 [[],[],S20.log,[],p22.2.log,[],[],p25.2.log,[],p27.2.log,[],[],[],p31.2.log,[],[],p34.2.log,[],p36.2.log,[],[],[],[],[],p42.2.log,[]] (bif g44 then self.f 33 [t40,t43] (onS p42.2)else some (.ret (.tuple []),(onS p42.2))) fun t44 S44=>
(qac t38 (some t44) (some (.bool false))).bind fun t45=>
qhh [(4,[9]),(7,[9]),(13,[18]),(16,[18])] p17.2 [[],[],S20.log,[],p22.2.log,[],[],p25.2.log,[],p27.2.log,[],[],[],p31.2.log,[],[],p34.2.log,[],p36.2.log,[],[],[],[],[],p42.2.log,[],S44.log,[],[]] (onS S44) fun S47=>
some (.ret t45,S47)):=by kernel_rfl
end
noncomputable section
def C14:Code:=Tryd.f14.body.getD .skip
def B14:D:=(qaq C14 [[],[],[],[],[],[],[],[3,5,6],[],[5],[],[],[],[],[],[],[],[],[0,3,5,6],[3,5,6],[0,5],[2],[]]).1
def RL14:List Nat:=cellsOf Tryd.f14.results.toList
def R14_12 (self:EV) (N:Nat) (nk:Ac->St->Rs) (ek:Nat->Ac->St->Rs) (a:Ac) (S:St):Rs:=qak [5] a fun a=>dr E0 self RL14 N (B14.r.r.r.r).r (mkK E0 self Tryd.f14 nk ek) a S
theorem R14_12_eq (self:EV) (N:Nat) (nk:Ac->St->Rs) (ek:Nat->Ac->St->Rs) ( v5:V) (S:St):R14_12 self N nk ek (fr 78 [(5,v5)]) S =
some (.ret v5,S):=by kernel_rfl
def qg1 (self:EV) (N:Nat) (nk:Ac->St->Rs) (ek:Nat->Ac->St->Rs) (n:Nat) ( v3 v5 v6:V) (S:St):Rs:=qc3 [3,5,6] (dr E0 self RL14 N (B14.r.r.r.r.l.r.l.l)) (mkK E0 self Tryd.f14 nk ek) n (fr 78 [(3,v3),(5,v5),(6,v6)]) S
theorem L14_16_eq (self:EV) (N:Nat) (nk:Ac->St->Rs) (ek:Nat->Ac->St->Rs) (n:Nat) ( v3 v5 v6:V) (S:St):qg1 self N nk ek (n+1) v3 v5 v6 S =
(lnS v3 S).bind fun p19=>
(qa4 E0 .lss 3 false false v6 p19.1).bind fun t20=>
ifK t20 (
(ixP 5 v3 v6).bind fun t23=>
(faP 0 false 1 t23).bind fun t24=>
(ld1 t24 p19.2).bind fun p25=>
(qa4 E0 .eql 3 false true p25.1 (.int .i64 0)).bind fun t26=>
ifK t26 (
(qa4 E0 .add 9 false true v5 (sv [91])).bind fun t29=>
(ixP 5 v3 v6).bind fun t32=>
(faP 2 false 1 t32).bind fun t33=>
(ld1 t33 p25.2).bind fun p34=>
callP (self.f 36 [p34.1] p34.2) fun t35 S35=>
(qa4 E0 .add 9 false false t29 t35).bind fun t36=>
(qa4 E0 .add 9 false true t36 (sv [93])).bind fun t37=>
(qa4 E0 .add 3 false true v6 (.int .i64 1)).bind fun t40=>
qg1 self N nk ek n v3 t37 t40 S35) (
(qa4 E0 .eql 3 false true p25.1 (.int .i64 2)).bind fun t42=>
ifK t42 (
(qa4 E0 .add 9 false true v5 (sv [47])).bind fun t45=>
(qa4 E0 .add 3 false true v6 (.int .i64 1)).bind fun t48=>
qg1 self N nk ek n v3 t45 t48 p25.2) (
(qa4 E0 .eql 3 false true p25.1 (.int .i64 3)).bind fun t50=>
ifK t50 (
(qa4 E0 .add 9 false true v5 (sv [123])).bind fun t53=>
(ixP 5 v3 v6).bind fun t56=>
(faP 1 false 1 t56).bind fun t57=>
(ld1 t57 p25.2).bind fun p58=>
(qa4 E0 .add 9 false false t53 p58.1).bind fun t59=>
(ixP 5 v3 v6).bind fun t63=>
(faP 3 false 1 t63).bind fun t64=>
(ld1 t64 p58.2).bind fun p65=>
(unV .not p65.1).bind fun t66=>
ifK t66 (
(qa4 E0 .add 9 false true t59 (sv [58])).bind fun t68=>
(ixP 5 v3 v6).bind fun t71=>
(faP 2 false 1 t71).bind fun t72=>
(ld1 t72 p65.2).bind fun p73=>
callP (self.f 36 [p73.1] p73.2) fun t74 S74=>
(qa4 E0 .add 9 false false t68 t74).bind fun t75=>
(qa4 E0 .add 9 false true t75 (sv [125])).bind fun t78=>
(qa4 E0 .add 3 false true v6 (.int .i64 1)).bind fun t81=>
qg1 self N nk ek n v3 t78 t81 S74) (
(qa4 E0 .add 9 false true t59 (sv [125])).bind fun t84=>
(qa4 E0 .add 3 false true v6 (.int .i64 1)).bind fun t87=>
qg1 self N nk ek n v3 t84 t87 p65.2)) (
(qa4 E0 .add 9 false true v5 (sv [32])).bind fun t90=>
(ixP 5 v3 v6).bind fun t93=>
(faP 1 false 1 t93).bind fun t94=>
(ld1 t94 p25.2).bind fun p95=>
(qa4 E0 .add 9 false false t90 p95.1).bind fun t96=>
(qa4 E0 .add 9 false true t96 (sv [32])).bind fun t97=>
(qa4 E0 .add 3 false true v6 (.int .i64 1)).bind fun t100=>
qg1 self N nk ek n v3 t97 t100 p95.2)))) (
ek 0 (fr 78 [(5,v5)]) p19.2):=by kernel_rfl
def F14 (self:EV) (N:Nat) (x0:V) (S:St):Rs:=qd4 E0 self N Tryd.f14 B14 [x0] S
theorem F14_eq (self:EV) (N:Nat) (x0:V) (S:St):F14 self N x0 S =
callP (self.f 8 [x0] S) fun t2 S2=>
(qa6 t2 0).bind fun t4=>
(qa6 t2 1).bind fun t5=>
(qa4 E0 .neq 24 false true t5 .niliface).bind fun t9=>
ifK t9 (
some (.ret (sv [63]),S2)) (
qg1 self N (R14_12 self N (qbt E0 self Tryd.f14) qas) (exB 0 (R14_12 self N (qbt E0 self Tryd.f14) qas) qas) N t4 (sv []) (.int .i64 0) S2):=by kernel_rfl
def C36:Code:=Tryd.f36.body.getD .skip
def B36:D:=(qaq C36 [[],[],[],[0,3,4],[],[3],[],[],[],[],[0,0,3,4,5,6],[0,3,4],[],[],[],[],[0,0,3,4],[0,3,4],[0,3],[2],[]]).1
def RL36:List Nat:=cellsOf Tryd.f36.results.toList
def R36_2 (self:EV) (N:Nat) (nk:Ac->St->Rs) (ek:Nat->Ac->St->Rs) (a:Ac) (S:St):Rs:=qak [3] a fun a=>dr E0 self RL36 N (B36.r.r).r (mkK E0 self Tryd.f36 nk ek) a S
theorem R36_2_eq (self:EV) (N:Nat) (nk:Ac->St->Rs) (ek:Nat->Ac->St->Rs) ( v3:V) (S:St):R36_2 self N nk ek (fr 55 [(3,v3)]) S =
some (.ret v3,S):=by kernel_rfl
def qg5 (self:EV) (N:Nat) (nk:Ac->St->Rs) (ek:Nat->Ac->St->Rs) (n:Nat) ( v0 v3 v4:V) (S:St):Rs:=qc3 [0,3,4] (dr E0 self RL36 N (B36.r.r.l.r.l.l)) (mkK E0 self Tryd.f36 nk ek) n (fr 55 [(0,v0),(3,v3),(4,v4)]) S
theorem L36_6_eq (self:EV) (N:Nat) (nk:Ac->St->Rs) (ek:Nat->Ac->St->Rs) (n:Nat) ( v0 v3 v4:V) (S:St):qg5 self N nk ek (n+1) v0 v3 v4 S =
(lnS v0 S).bind fun p9=>
(qa4 E0 .lss 3 false false v4 p9.1).bind fun t10=>
ifK t10 (
(ixP 6 v0 v4).bind fun t13=>
(ldA 6 t13 p9.2).bind fun p14=>
(some (nwP 49 6 (Tr.ofListFrom .nil [(.int .i64 0),(sv []),(sv []),(.bool false),.nilslice,.nilptr] 0) p14.2)).bind fun p15=>
(stP 6 p15.1 p14.1 p15.2).bind fun p16=>
(qa7 E0 114 [(0,(sv [])),(1,(sv [113])),(2,(sv [36])),(3,(sv [40]))]).bind fun t17=>
(faP 0 false 1 p15.1).bind fun t18=>
(ld1 t18 p16.2).bind fun p19=>
(qi6 minV p19.1 [(.int .i64 3)] p19.2).bind fun p20=>
(qi6 maxV p20.1 [(.int .i64 0)] p20.2).bind fun p21=>
(ixV 4 1 false 1 t17 p21.1).bind fun t22=>
(faP 3 false 1 p15.1).bind fun t24=>
(ld1 t24 p21.2).bind fun p25=>
ifK p25.1 (
(qa4 E0 .add 9 false true t22 (sv [81])).bind fun t27=>
(qa4 E0 .add 9 false false v3 t27).bind fun t31=>
(faP 1 false 1 p15.1).bind fun t32=>
(ld1 t32 p25.2).bind fun p33=>
(qa4 E0 .add 9 false false t31 p33.1).bind fun t34=>
(faP 2 false 1 p15.1).bind fun t35=>
(ld1 t35 p33.2).bind fun p36=>
(qa4 E0 .add 9 false false t34 p36.1).bind fun t37=>
(faP 4 false 1 p15.1).bind fun t39=>
(ld1 t39 p36.2).bind fun p40=>
(lnS p40.1 p40.2).bind fun p41=>
(qa4 E0 .gtr 3 false true p41.1 (.int .i64 0)).bind fun t42=>
ifK t42 (
(qa4 E0 .add 9 false true t37 (sv [60])).bind fun t44=>
(faP 4 false 1 p15.1).bind fun t45=>
(ld1 t45 p41.2).bind fun p46=>
callP (self.f 36 [p46.1] p46.2) fun t47 S47=>
(qa4 E0 .add 9 false false t44 t47).bind fun t48=>
(qa4 E0 .add 9 false true t48 (sv [62])).bind fun t49=>
(qa4 E0 .add 3 false true v4 (.int .i64 1)).bind fun t52=>
(lnS v0 S47).bind fun p54=>
(qa4 E0 .lss 3 false false t52 p54.1).bind fun t55=>
ifK t55 (
(qa4 E0 .add 9 false true t49 (sv [46])).bind fun t57=>
(qa4 E0 .add 3 false true v4 (.int .i64 1)).bind fun t60=>
qg5 self N nk ek n v0 t57 t60 p54.2) (
(qa4 E0 .add 3 false true v4 (.int .i64 1)).bind fun t63=>
qg5 self N nk ek n v0 t49 t63 p54.2)) (
(qa4 E0 .add 3 false true v4 (.int .i64 1)).bind fun t66=>
(lnS v0 p41.2).bind fun p68=>
(qa4 E0 .lss 3 false false t66 p68.1).bind fun t69=>
ifK t69 (
(qa4 E0 .add 9 false true t37 (sv [46])).bind fun t71=>
(qa4 E0 .add 3 false true v4 (.int .i64 1)).bind fun t74=>
qg5 self N nk ek n v0 t71 t74 p68.2) (
(qa4 E0 .add 3 false true v4 (.int .i64 1)).bind fun t77=>
qg5 self N nk ek n v0 t37 t77 p68.2))) (
(qa4 E0 .add 9 false false v3 t22).bind fun t81=>
(faP 1 false 1 p15.1).bind fun t82=>
(ld1 t82 p25.2).bind fun p83=>
(qa4 E0 .add 9 false false t81 p83.1).bind fun t84=>
(faP 2 false 1 p15.1).bind fun t85=>
(ld1 t85 p83.2).bind fun p86=>
(qa4 E0 .add 9 false false t84 p86.1).bind fun t87=>
(faP 4 false 1 p15.1).bind fun t89=>
(ld1 t89 p86.2).bind fun p90=>
(lnS p90.1 p90.2).bind fun p91=>
(qa4 E0 .gtr 3 false true p91.1 (.int .i64 0)).bind fun t92=>
ifK t92 (
(qa4 E0 .add 9 false true t87 (sv [60])).bind fun t94=>
(faP 4 false 1 p15.1).bind fun t95=>
(ld1 t95 p91.2).bind fun p96=>
callP (self.f 36 [p96.1] p96.2) fun t97 S97=>
(qa4 E0 .add 9 false false t94 t97).bind fun t98=>
(qa4 E0 .add 9 false true t98 (sv [62])).bind fun t99=>
(qa4 E0 .add 3 false true v4 (.int .i64 1)).bind fun t102=>
(lnS v0 S97).bind fun p104=>
(qa4 E0 .lss 3 false false t102 p104.1).bind fun t105=>
ifK t105 (
(qa4 E0 .add 9 false true t99 (sv [46])).bind fun t107=>
(qa4 E0 .add 3 false true v4 (.int .i64 1)).bind fun t110=>
qg5 self N nk ek n v0 t107 t110 p104.2) (
(qa4 E0 .add 3 false true v4 (.int .i64 1)).bind fun t113=>
qg5 self N nk ek n v0 t99 t113 p104.2)) (
(qa4 E0 .add 3 false true v4 (.int .i64 1)).bind fun t116=>
(lnS v0 p91.2).bind fun p118=>
(qa4 E0 .lss 3 false false t116 p118.1).bind fun t119=>
ifK t119 (
(qa4 E0 .add 9 false true t87 (sv [46])).bind fun t121=>
(qa4 E0 .add 3 false true v4 (.int .i64 1)).bind fun t124=>
qg5 self N nk ek n v0 t121 t124 p118.2) (
(qa4 E0 .add 3 false true v4 (.int .i64 1)).bind fun t127=>
qg5 self N nk ek n v0 t87 t127 p118.2)))) (
ek 0 (fr 55 [(3,v3)]) p9.2):=by kernel_rfl
def F36 (self:EV) (N:Nat) (x0:V) (S:St):Rs:=qd4 E0 self N Tryd.f36 B36 [x0] S
theorem F36_eq (self:EV) (N:Nat) (x0:V) (S:St):F36 self N x0 S =
qg5 self N (R36_2 self N (qbt E0 self Tryd.f36) qas) (exB 0 (R36_2 self N (qbt E0 self Tryd.f36) qas) qas) N x0 (sv []) (.int .i64 0) S:=by kernel_rfl
def C15:Code:=Tryd.f15.body.getD .skip
def B15:D:=(qaq C15 [[],[],[]]).1
def F15 (self:EV) (N:Nat) (x0 x1 x2:V) (S:St):Rs:=qd4 E0 self N Tryd.f15 B15 [x0,x1,x2] S
theorem F15_eq (self:EV) (N:Nat) (x0 x1 x2:V) (S:St):F15 self N x0 x1 x2 S =
callP (self.f 8 [x0] S) fun t2 S2=>
(qa6 t2 0).bind fun t4=>
(qa6 t2 1).bind fun t5=>
(lnS t4 S2).bind fun p9=>
(qa4 E0 .eql 3 false true p9.1 (.int .i64 0)).bind fun t10=>
(qa0 true t10).bind fun g12=>(bif g12 then some t5 else some (.tuple [])).bind fun t12=>
(qa0 true t10).bind fun g13=>(bif g13 then some x1 else some (.tuple [])).bind fun t13=>
(qa0 true t10).bind fun g14=>(bif g14 then some x2 else some (.tuple [])).bind fun t14=>
(qa0 true t10).bind fun g15=>(bif g15 then qa7 E0 29 [(0,t13),(1,t14)]else some (.tuple [])).bind fun t15=>
(qa0 true t10).bind fun g16=>callP (bif g16 then self.f 10 [t12,t15] p9.2 else some (.ret (.tuple []),p9.2)) fun t16 S16=>
(qac t10 (some t16) (some (.bool false))).bind fun t17=>
some (.ret t17,S16):=by kernel_rfl
def C12:Code:=Tryd.f12.body.getD .skip
def B12:D:=(qaq C12 [[],[]]).1
def F12 (self:EV) (N:Nat) (S:St):Rs:=qd4 E0 self N Tryd.f12 B12 [] S
theorem F12_eq (self:EV) (N:Nat) (S:St):F12 self N S =
callP (self.f 14 [(sv [101,99,104,111,32,97,39,98,32,99,39,34,100,36,120,34,32,50,62,102])] S) fun t1 S1=>
(qa4 E0 .eql 9 false true t1 (sv [91,101,99,104,111,93,91,97,46,113,98,32,99,46,113,81,100,46,36,81,120,93,32,50,62,32,91,102,93])).bind fun t2=>
(qa0 true t2).bind fun g4=>callP (bif g4 then self.f 14 [(sv [97,59,98,38,38,99,32,35,32,120,10])] S1 else some (.ret (.tuple []),S1)) fun t4 S4=>
(qa0 true t2).bind fun g5=>(bif g5 then qa4 E0 .eql 9 false true t4 (sv [91,97,93,32,59,32,91,98,93,32,38,38,32,91,99,93,47])else some (.tuple [])).bind fun t5=>
(qac t2 (some t5) (some (.bool false))).bind fun t6=>
(qa0 true t6).bind fun g8=>callP (bif g8 then self.f 14 [(sv [36,123,120,58,45,97,32,98,125,34,36,123,35,121,125,34,32,36,40,102,32,39,41,39,32,41])] S4 else some (.ret (.tuple []),S4)) fun t8 S8=>
(qa0 true t6).bind fun g9=>(bif g9 then qa4 E0 .eql 9 false true t8 (sv [91,36,120,58,45,60,97,32,98,62,46,36,81,121,108,101,110,93,91,40,102,32,39,41,39,32,93])else some (.tuple [])).bind fun t9=>
(qac t6 (some t9) (some (.bool false))).bind fun t10=>
(qa0 true t10).bind fun g12=>callP (bif g12 then self.f 14 [(sv [99,97,116,32,60,60,69,59,120,10,104,105,32,36,121,10,69,10])] S8 else some (.ret (.tuple []),S8)) fun t12 S12=>
(qa0 true t10).bind fun g13=>(bif g13 then qa4 E0 .eql 9 false true t12 (sv [91,99,97,116,93,32,60,60,32,91,69,93,123,104,105,32,36,121,10,58,113,81,104,105,32,46,36,81,121,46,113,81,10,125,32,59,32,91,120,93,47])else some (.tuple [])).bind fun t13=>
(qac t10 (some t13) (some (.bool false))).bind fun t14=>
(qa0 true t14).bind fun g16=>callP (bif g16 then self.f 15 [(sv [39,97]),(.int .i64 19),(.int .i64 0)] S12 else some (.ret (.tuple []),S12)) fun t16 S16=>
(qac t14 (some t16) (some (.bool false))).bind fun t17=>
(qa0 true t17).bind fun g19=>callP (bif g19 then self.f 15 [(sv [97,32,38]),(.int .i64 19),(.int .i64 2)] S16 else some (.ret (.tuple []),S16)) fun t19 S19=>
(qac t17 (some t19) (some (.bool false))).bind fun t20=>
(qa0 true t20).bind fun g22=>callP (bif g22 then self.f 15 [(sv [34,36,123,120,34]),(.int .i64 19),(.int .i64 1)] S19 else some (.ret (.tuple []),S19)) fun t22 S22=>
(qac t20 (some t22) (some (.bool false))).bind fun t23=>
(qa0 true t23).bind fun g25=>callP (bif g25 then self.f 15 [(sv [96]),(.int .i64 19),(.int .i64 0)] S22 else some (.ret (.tuple []),S22)) fun t25 S25=>
(qac t23 (some t25) (some (.bool false))).bind fun t26=>
some (.ret t26,S25):=by kernel_rfl
end
noncomputable section
def C85:Code:=Tryd.f85.body.getD .skip
def B85:D:=(qaq C85 [[],[],[],[],[],[],[],[],[],[],[],[],[],[],[],[],[0,1,5,6,7,8,9,10],[],[],[],[],[],[],[],[],[0,0,1,5,6,7,8,9,10],[0,1,5,6,7,8,9,10],[],[],[],[],[],[],[],[],[],[],[],[],[],[],[],[],[],[0],[4],[]]).1
def F85 (self:EV) (N:Nat) (x0 x1:V) (S:St):Rs:=qd4 E0 self N Tryd.f85 B85 [x0,x1] S
theorem F85_eq (self:EV) (N:Nat) (x0 x1:V) (S:St):F85 self N x0 x1 S =
(qbf x1 S).bind fun p2=>
(qa4 E0 .eql 3 false true p2.1 (.int .i64 0)).bind fun t5=>
(qa0 false t5).bind fun g7=>(bif g7 then some x1 else some (.tuple [])).bind fun t7=>
(qa0 false t5).bind fun g8=>(bif g8 then some x0 else some (.tuple [])).bind fun t8=>
(qa0 false t5).bind fun g9=>(bif g9 then qa4 E0 .eql 9 false false t7 t8 else some (.tuple [])).bind fun t9=>
(qac t5 (some (.bool true)) (some t9)).bind fun t10=>
ifK t10 (
some (.ret (.int .i64 0),p2.2)) (
(qa4 E0 .eql 3 false true p2.1 (.int .i64 1)).bind fun t14=>
ifK t14 (
(ixS x1 (.int .i64 0)).bind fun t18=>
callP (self.f 87 [x0,t18] p2.2) fun t19 S19=>
some (.ret t19,S19)) (
(qbf x0 p2.2).bind fun p23=>
(qa4 E0 .geq 3 false false p2.1 p23.1).bind fun t24=>
ifK t24 (
some (.ret (.int .i64 (-1)),p23.2)) (
none))):=by kernel_rfl
end
noncomputable section
def C3:Code:=Tryd.f3.body.getD .skip
def B3:D:=(qaq C3 [[],[],[],[],[]]).1
def F3 (self:EV) (N:Nat) (x0:V) (S:St):Rs:=qd4 E0 self N Tryd.f3 B3 [x0] S
theorem F3_eq (self:EV) (N:Nat) (x0:V) (S:St):F3 self N x0 S =
(qbf x0 S).bind fun p3=>
(qi6 minV p3.1 [(.int .i64 4100)] p3.2).bind fun p4=>
(qah E0 9 x0 none (some p4.1) none p4.2).bind fun p5=>
callP (self.f 8 [p5.1] p5.2) fun t8 S8=>
(qa6 t8 0).bind fun t10=>
(qa6 t8 1).bind fun t11=>
callP (self.f 9 [p5.1] S8) fun t15 S15=>
(qa6 t15 0).bind fun t17=>
(qa6 t15 1).bind fun t18=>
(some (nwP 29 2 (Tr.ofListFrom .nil [(.int .i64 0),(.int .i64 0)] 0) S15)).bind fun p19=>
(stP 2 p19.1 t18 p19.2).bind fun p21=>
(ldA 2 p19.1 p21.2).bind fun p23=>
callP (self.f 10 [t11,p23.1] p23.2) fun t24 S24=>
(qa0 true t24).bind fun g26=>(bif g26 then some t10 else some (.tuple [])).bind fun t26=>
(qa0 true t24).bind fun g27=>(bif g27 then some t17 else some (.tuple [])).bind fun t27=>
(qa0 true t24).bind fun g28=>callP (bif g28 then self.f 11 [t26,t27] S24 else some (.ret (.tuple []),S24)) fun t28 S28=>
(qac t24 (some t28) (some (.bool false))).bind fun t29=>
(qa0 true t29).bind fun g31=>callP (bif g31 then self.f 12 [] S28 else some (.ret (.tuple []),S28)) fun t31 S31=>
(qac t29 (some t31) (some (.bool false))).bind fun t32=>
some (.ret t32,S31):=by kernel_rfl
end
end Go.Proofs.YtafbipadnnmccaaDoor.W
end
