/-
  WHAT THE FUNCTIONS COME TO: each is read by the evaluator,printed,and told as a function of data,part 7 of 15 (no condition).
-/
import Derived.Test.YtpgegoeghaplkaaGreatDoorW6
import Derived.Test.YtpgegoeghaplkaaGreatDoorProg
import Derived.KernelRfl
noncomputable section
namespace Go.Proofs.YtpgegoeghaplkaaGreatDoor.W
open Go.Proofs.YtpgegoeghaplkaaGreatDoor.Ev
set_option maxRecDepth 100000
noncomputable section
def C36:Code:=Tryz.f36.body.getD .skip
def B36:D:=(qak C36 [[],[],[],[0,3],[2],[],[],[6,19,20],[],[6],[],[],[],[0,6],[2],[]]).1
def RL36:List Nat:=cellsOf Tryz.f36.results.toList
def R36_9 (self:EV) (N:Nat) (nk:Ac->St->Rs) (ek:Nat->Ac->St->Rs) (a:Ac) (S:St):Rs:=qa7 [3] a fun a=>dr E0 self RL36 N (B36.r.r).r (mkK E0 self Tryz.f36 nk ek) a S
def R36_11 (self:EV) (N:Nat) (nk:Ac->St->Rs) (ek:Nat->Ac->St->Rs) (a:Ac) (S:St):Rs:=qa7 [6] a fun a=>dr E0 self RL36 N (B36.r.r.r.l.r).r (mkK E0 self Tryz.f36 nk ek) a S
theorem R36_11_eq (self:EV) (N:Nat) (nk:Ac->St->Rs) (ek:Nat->Ac->St->Rs) (ds:List AD) ( v6:V) (S:St):R36_11 self N nk ek (frD 40 [(6,v6)] ds) S =
(qbe E0 43 9 v6 S).bind fun p13=>
finR E0 self Tryz.f36 (frD 40 [(2,p13.1),(6,v6),(38,v6),(39,p13.1)] ds) p13.2:=by kernel_rfl
def L36_17 (self:EV) (N:Nat) (nk:Ac->St->Rs) (ek:Nat->Ac->St->Rs) (n:Nat) (ds:List AD) ( v6 v19 v20:V) (S:St):Rs:=qb8 [6,19,20] (dr E0 self RL36 N (B36.r.r.r.l.r.l.r.l.l)) (mkK E0 self Tryz.f36 nk ek) n (frD 40 [(6,v6),(19,v19),(20,v20)] ds) S
theorem L36_17_eq (self:EV) (N:Nat) (nk:Ac->St->Rs) (ek:Nat->Ac->St->Rs) (n:Nat) (ds:List AD) ( v6 v19 v20:V) (S:St):L36_17 self N nk ek (n+1) ds v6 v19 v20 S =
(qa4 E0 .lss 3 false true v20 (.int .i64 8)).bind fun t18=>
ifK t18 (
(ixV 8 1 false 1 v19 v20).bind fun t19=>
(qa4 E0 .shr 86 false true t19 (.int .u64 24)).bind fun t23=>
(cvI .u8 t23 S).bind fun p24=>
(qa4 E0 .shr 86 false true t19 (.int .u64 16)).bind fun t26=>
(cvI .u8 t26 p24.2).bind fun p27=>
(qa4 E0 .shr 86 false true t19 (.int .u64 8)).bind fun t29=>
(cvI .u8 t29 p27.2).bind fun p30=>
(cvI .u8 t19 p30.2).bind fun p32=>
(bsP 5 1 4 (Ev.one (.int .u8 0)) [(0,p24.1),(1,p27.1),(2,p30.1),(3,p32.1)] p32.2).bind fun p33=>
(apP 5 1 1 v6 p33.1 p33.2).bind fun p34=>
(qa4 E0 .add 3 false true v20 (.int .i64 1)).bind fun t36=>
L36_17 self N nk ek n ds p34.1 v19 t36 p34.2) (
ek 2 (frD 40 [(6,v6)] ds) S):=by kernel_rfl
theorem R36_9_eq (self:EV) (N:Nat) (nk:Ac->St->Rs) (ek:Nat->Ac->St->Rs) (ds:List AD) ( v3:V) (S:St):R36_9 self N nk ek (frD 40 [(3,v3)] ds) S =
(ldA 8 v3 S).bind fun p15=>
L36_17 self N (R36_11 self N (fun a s=>qa7 [2] a fun a=>nk a s) ek) (exB 2 (R36_11 self N (fun a s=>qa7 [2] a fun a=>nk a s) ek) ek) N ds .nilslice p15.1 (.int .i64 0) p15.2:=by kernel_rfl
def YA36_40:Code:=(B36.r.r.l.r.l).as
def YB36_40:Code:=(B36.r.r.l.r.l).bd
def DA36_40:D:=(qak YA36_40 []).1
def DB36_40:D:=(qak YB36_40 []).1
def qcv (st:Nat) (pend:Option Code) ( v3 v4:V):O:=.loop st pend (frT [(3,v3),(4,v4)] .nil) 40 [15] YA36_40 YB36_40
def Y36_40 (self:EV) (N:Nat) (l:Nat) ( v3 v4:V) ( w15:V) (S:St):Rs:=roundK E0 self N DA36_40 DB36_40 l (frT [(3,v3),(4,v4)] .nil) 40 [15] [w15] S
theorem Y36_40_eq (self:EV) (N:Nat) (l:Nat) ( v3 v4:V) ( w15:V) (S:St):Y36_40 self N l v3 v4 w15 S =
midR l (frR 40 [(3,v3),(4,v4),(5,w15),(15,w15)] l) S fun S41=>
(ldA 8 v3 S41).bind fun p43=>
callE (self.f 74 [p43.1,w15,v4] p43.2) fun t45 S45=>
(stP 8 v3 t45 S45).bind fun p46=>
endRound l 0 none true p46.2:=by kernel_rfl
def F36 (self:EV) (N:Nat) (x0:V) (S:St):Rs:=qaq E0 self N Tryz.f36 B36 [x0] S
theorem F36_eq (self:EV) (N:Nat) (x0:V) (S:St):F36 self N x0 S =
callPF E0 self Tryz.f36 (frD 40 [(0,x0),(2,(sv []))] []) (self.f 72 [] S) fun t1 S1=>
(qab t1 0).bind fun t3=>
(qab t1 1).bind fun t4=>
(some (nwP 88 8 (Tr.ofListFrom .nil [(.int .u32 0),(.int .u32 0),(.int .u32 0),(.int .u32 0),(.int .u32 0),(.int .u32 0),(.int .u32 0),(.int .u32 0)] 0) S1)).bind fun p5=>
(some (nwP 89 64 (Tr.ofListFrom .nil z64q 0) p5.2)).bind fun p6=>
(stP 8 p5.1 t3 p6.2).bind fun p7=>
(stP 64 p6.1 t4 p7.2).bind fun p8=>
callPF E0 self Tryz.f36 (frD 40 [(0,x0),(2,(sv [])),(3,p5.1),(4,p6.1),(9,t1),(10,t1),(11,t3),(12,t4),(13,x0)] []) (self.f 73 [x0] p8.2) fun t39 S39=>
rangeP E0 self t39 (qcv 0 none p5.1 p6.1) S39 (fun S47=>
R36_9 self N (qat E0 self Tryz.f36) qad (frD 40 [(3,p5.1)] (mkR S39.next::[])) S47) (fun s=>finR E0 self Tryz.f36 (frD 40 [(0,x0),(2,(sv [])),(3,p5.1),(4,p6.1),(9,t1),(10,t1),(11,t3),(12,t4),(13,x0),(14,t39)] (mkR S39.next::[])) s) (fun i s=>(exB 0 (R36_9 self N (qat E0 self Tryz.f36) qad) qad) i (frD 40 [(0,x0),(2,(sv [])),(3,p5.1),(4,p6.1),(9,t1),(10,t1),(11,t3),(12,t4),(13,x0),(14,t39)] (mkR S39.next::[])) s) (fun v s=>qbp E0 self Tryz.f36 (frD 40 [(0,x0),(2,(sv [])),(3,p5.1),(4,p6.1),(9,t1),(10,t1),(11,t3),(12,t4),(13,x0),(14,t39)] (mkR S39.next::[])) (mkR S39.next::[]) (.pan v) s):=by kernel_rfl
def C73:Code:=Tryz.f73.body.getD .skip
def B73:D:=(qak C73 [[],[]]).1
def F73 (self:EV) (N:Nat) (x0:V) (S:St):Rs:=qaq E0 self N Tryz.f73 B73 [x0] S
theorem F73_eq (self:EV) (N:Nat) (x0:V) (S:St):F73 self N x0 S =
(qjy 9 x0 S).bind fun p0=>
some (.ret (.fn (.func 99) [] [p0.1]),p0.2):=by kernel_rfl
def C99:Code:=Tryz.f99.body.getD .skip
def B99:D:=(qak C99 [[],[0,1,3],[],[0,1,3],[],[0,0,1,3],[],[],[0,1,3,16],[],[0,3],[],[],[],[0,0,3],[],[0,3],[],[],[],[],[]]).1
def RL99:List Nat:=cellsOf Tryz.f99.results.toList
def R99_5 (self:EV) (N:Nat) (nk:Ac->St->Rs) (ek:Nat->Ac->St->Rs) (a:Ac) (S:St):Rs:=qa7 [0,1,3] a fun a=>dr E0 self RL99 N (B99.r).r (mkK E0 self Tryz.f99 nk ek) a S
def R99_6 (self:EV) (N:Nat) (nk:Ac->St->Rs) (ek:Nat->Ac->St->Rs) (a:Ac) (S:St):Rs:=qa7 [0,3] a fun a=>dr E0 self RL99 N (B99.r.r.l).r (mkK E0 self Tryz.f99 nk ek) a S
def L99_7 (self:EV) (N:Nat) (nk:Ac->St->Rs) (ek:Nat->Ac->St->Rs) (n:Nat) ( v0 v3:V) (S:St):Rs:=qb8 [0,3] (dr E0 self RL99 N (B99.r.r.l.r.l.l.l)) (mkK E0 self Tryz.f99 nk ek) n (fr 42 [(0,v0),(3,v3)]) S
theorem L99_7_eq (self:EV) (N:Nat) (nk:Ac->St->Rs) (ek:Nat->Ac->St->Rs) (n:Nat) ( v0 v3:V) (S:St):L99_7 self N nk ek (n+1) v0 v3 S =
(lnS v3 S).bind fun p9=>
(qa4 E0 .gtr 3 false true p9.1 (.int .i64 0)).bind fun t10=>
ifK t10 (
(qb6 E0 43 v3 none (some (.int .i64 64)) none p9.2).bind fun p13=>
qaf (qc8 E0 self v0 [p13.1] p13.2) fun t14 S14=>
(unV .not t14).bind fun t15=>
ifK t15 (
some (.ret (.tuple []),S14)) (
(qb6 E0 43 v3 (some (.int .i64 64)) none none S14).bind fun p17=>
L99_7 self N nk ek n v0 p17.1 p17.2)) (
ek 4 (fr 42 []) p9.2):=by kernel_rfl
theorem R99_6_eq (self:EV) (N:Nat) (nk:Ac->St->Rs) (ek:Nat->Ac->St->Rs) ( v0 v3:V) (S:St):R99_6 self N nk ek (fr 42 [(0,v0),(3,v3)]) S =
L99_7 self N (fun a s=>qa7 [] a fun a=>nk a s) (exB 4 (fun a s=>qa7 [] a fun a=>nk a s) ek) N v0 v3 S:=by kernel_rfl
def L99_20 (self:EV) (N:Nat) (nk:Ac->St->Rs) (ek:Nat->Ac->St->Rs) (n:Nat) ( v0 v1 v3 v16:V) (S:St):Rs:=qb8 [0,1,3,16] (dr E0 self RL99 N (B99.r.r.l.l.r.l.l)) (mkK E0 self Tryz.f99 nk ek) n (fr 42 [(0,v0),(1,v1),(3,v3),(16,v16)]) S
theorem L99_20_eq (self:EV) (N:Nat) (nk:Ac->St->Rs) (ek:Nat->Ac->St->Rs) (n:Nat) ( v0 v1 v3 v16:V) (S:St):L99_20 self N nk ek (n+1) v0 v1 v3 v16 S =
(qa4 E0 .lss 3 false true v16 (.int .i64 8)).bind fun t21=>
ifK t21 (
(ld1 v1 S).bind fun p25=>
(qbr p25.1 p25.2).bind fun p26=>
(cvI .u64 p26.1 p26.2).bind fun p27=>
(qa4 E0 .mul 108 false true p27.1 (.int .u64 8)).bind fun t28=>
(qa4 E0 .sub 3 true false (.int .i64 7) v16).bind fun t30=>
(qa4 E0 .mul 3 true false (.int .i64 8) t30).bind fun t31=>
(qa4 E0 .shr 108 false false t28 t31).bind fun t32=>
(cvI .u8 t32 p27.2).bind fun p33=>
(bsP 5 1 1 (Ev.one (.int .u8 0)) [(0,p33.1)] p33.2).bind fun p34=>
(apP 5 1 1 v3 p34.1 p34.2).bind fun p35=>
(qa4 E0 .add 3 false true v16 (.int .i64 1)).bind fun t37=>
L99_20 self N nk ek n v0 v1 p35.1 t37 p35.2) (
ek 2 (fr 42 [(0,v0),(3,v3)]) S):=by kernel_rfl
theorem R99_5_eq (self:EV) (N:Nat) (nk:Ac->St->Rs) (ek:Nat->Ac->St->Rs) ( v0 v1 v3:V) (S:St):R99_5 self N nk ek (fr 42 [(0,v0),(1,v1),(3,v3)]) S =
L99_20 self N (R99_6 self N (fun a s=>qa7 [] a fun a=>nk a s) ek) (exB 2 (R99_6 self N (fun a s=>qa7 [] a fun a=>nk a s) ek) ek) N v0 v1 v3 (.int .i64 0) S:=by kernel_rfl
def L99_39 (self:EV) (N:Nat) (nk:Ac->St->Rs) (ek:Nat->Ac->St->Rs) (n:Nat) ( v0 v1 v3:V) (S:St):Rs:=qb8 [0,1,3] (dr E0 self RL99 N (B99.r.l.l.l)) (mkK E0 self Tryz.f99 nk ek) n (fr 42 [(0,v0),(1,v1),(3,v3)]) S
theorem L99_39_eq (self:EV) (N:Nat) (nk:Ac->St->Rs) (ek:Nat->Ac->St->Rs) (n:Nat) ( v0 v1 v3:V) (S:St):L99_39 self N nk ek (n+1) v0 v1 v3 S =
(lnS v3 S).bind fun p41=>
(qa4 E0 .rem 3 false true p41.1 (.int .i64 64)).bind fun t42=>
(qa4 E0 .neq 3 false true t42 (.int .i64 56)).bind fun t43=>
ifK t43 (
(bsP 5 1 1 (Ev.one (.int .u8 0)) [(0,(.int .u8 0))] p41.2).bind fun p45=>
(apP 5 1 1 v3 p45.1 p45.2).bind fun p46=>
L99_39 self N nk ek n v0 v1 p46.1 p46.2) (
ek 0 (fr 42 [(0,v0),(1,v1),(3,v3)]) p41.2):=by kernel_rfl
def F99 (self:EV) (N:Nat) (x0 x1:V) (S:St):Rs:=qaq E0 self N Tryz.f99 B99 [x0,x1] S
theorem F99_eq (self:EV) (N:Nat) (x0 x1:V) (S:St):F99 self N x0 x1 S =
(ld1 x1 S).bind fun p0=>
(qbe E0 9 43 p0.1 p0.2).bind fun p1=>
(bsP 5 1 1 (Ev.one (.int .u8 0)) [(0,(.int .u8 128))] p1.2).bind fun p2=>
(apP 5 1 1 p1.1 p2.1 p2.2).bind fun p3=>
L99_39 self N (R99_5 self N (qat E0 self Tryz.f99) qad) (exB 0 (R99_5 self N (qat E0 self Tryz.f99) qad) qad) N x0 x1 p3.1 p3.2:=by kernel_rfl
end
end Go.Proofs.YtpgegoeghaplkaaGreatDoor.W
namespace Go.Proofs.YtpgegoeghaplkaaGreatDoor.W
open Go.Proofs.YtpgegoeghaplkaaGreatDoor.Ev Go.RowKit
def padN (n:Nat):Nat:=(119-n%64)%64
def qmx (n i:Nat):UInt8:=UInt8.ofNat (n*8/2^(8*(7-i)))
def lens (n:Nat):Nat->Nat->Bs
 | 0,_=>[]
 | d+1,i=>qmx n i::lens n d (i+1)
def qeu (s:Bs):Bs:=(s++[128]++List.replicate (padN s.length) 0)++lens s.length 8 0
theorem lens_len (n:Nat):∀d i,(lens n d i).length=d
 | 0,_=>rfl
 | d+1,i=>by show(lens n d (i+1)).length+1=_; rw[lens_len n d]
theorem padded_len (s:Bs):∃c,(qeu s).length=64*c/\0<c/\64*c<=s.length+72:=by
 have h1:(qeu s).length=s.length+1+padN s.length+8:=by
  unfold qeu;rw[lAq,lAq,lAq,List.length_replicate,lens_len]; rfl
 unfold padN at h1;exact⟨(qeu s).length/64,by omega,by omega,by omega⟩
theorem rs53 {n:Nat} {args:List V} {s:St} {r:En×St} (e:qaq E0 (ev E0 KH n) qa1 Tryz.f73 B73 args s=some r):(ev E0 KH (n+1)).f 73 args s=some r:=qa6 (c:=C73) (d:=B73) (by kernel_rfl) (by kernel_rfl) (qa3 C73 _ (by kernel_rfl)) rfl e
theorem rs83 {n:Nat} {args:List V} {s:St} {r:En×St} (e:qaq E0 (ev E0 KH n) qa1 Tryz.f99 B99 args s=some r):(ev E0 KH (n+1)).f 99 args s=some r:=qa6 (c:=C99) (d:=B99) (by kernel_rfl) (by kernel_rfl) (qa3 C99 _ (by kernel_rfl)) rfl e
section
variable {S T U:St} {v:V} {bs:Bs} {N hb kb l:Nat} {hf kf:Nat->UInt32}
def BQ (S:St) (v:V) (bs:Bs) (N:Nat):Prop:=∃r,v=.oslice r 0 bs.length 1/\RowAt S r 5 1 (bs.map qbb)/\r<S.next/\N<=r
theorem BQ.push (h:BQ S v bs N) (ho:S.on=false) (hN:N<=S.next) (hl:bs.length<100000) (c:UInt8):∃y W v' U,bsP 5 1 1 (Ev.one (.int .u8 0)) [(0,.int .u8 (c.toNat:Int))] S=some (y,W)/\apP 5 1 1 v y W=some (v',U)/\BQ U v' (bs++[c]) N/\Grew (fun x=>N<=x) S U:=by
 obtain⟨r,rfl,hr,hr2,hr3⟩:=h;obtain⟨W,h1,h2,h3,h4⟩:=bsP_byte ho 5 c;have on1:=h3.on.trans ho;have hrow:=hr.grew hr2 (fun h=>h) h3;obtain⟨U,k1,k2,k3,k4⟩:=ap1_more (B:=1) on1 h2 hrow (by rw[lM]; unfold qac; omega) (by rw[lM]; unfold big; omega);rw[lM]at k1;refine⟨_,W,_,U,h1,k1,⟨W.next,by rw[lAq]; rfl,by rw[List.map_append]; exact k2,by omega,by omega⟩,(h3.mono fun _ _ h=>h.elim).trans (k3.mono fun x _ e=>by subst e; exact hr3)⟩
theorem BQ.len (h:BQ S v bs N) (U:St):lnS v U=some (.int .i64 (bs.length:Int),U):=by
 obtain⟨r,rfl,_⟩:=h;exact qjc (fun _ _ e=>by cases e) rfl
theorem rem64 (n:Nat):qa4 E0 .rem 3 false true (.int .i64 (n:Int)) (.int .i64 64)=some (.int .i64 ((n%64:Nat):Int)):=by
 rw[binV_ii,qgt _ _ _ (by decide)]
 congr 2
theorem neq56 (n:Nat):qa4 E0 .neq 3 false true (.int .i64 (n:Int)) (.int .i64 56)=some (.bool (!decide (n=56))):=by
 rw[show V.int .i64 56=.int .i64 ((56:Nat):Int)from rfl,binV_ii,intsV_neq]
 congr 3
 simp;omega
theorem L39p_spec {m Nn:Nat} {v0 v1:V} (nk:Ac->St->Rs) (ek:Nat->Ac->St->Rs) :
 ∀(d q:Nat) (v:V) (bs:Bs) (S:St),(bs.length+d)%64=56->d<64->d<q->bs.length+d<90000->S.on=false->BQ S v bs N->N<=S.next->
 ∃v' U,L99_39 (ev E0 KH m) Nn nk ek q v0 v1 v S=ek 0 (fr 42 [(0,v0),(1,v1),(3,v')]) U/\BQ U v' (bs++List.replicate d 0) N/\Grew (fun x=>N<=x) S U
 | _,0,_,_,_,_,_,hq,_,_,_,_=>by omega
 | 0,q+1,v,bs,S,hd,_,hq,hl,ho,hB,hN=>by
  refine⟨v,S,?_,by simpa using hB,Grew.refl _ _⟩;rw[L99_39_eq,hB.len,oB];dsimp only;rw[rem64,oB,neq56,oB,dT (by omega),Bool.not_true,ifK_bool,cF]
 | d+1,q+1,v,bs,S,hd,hd64,hq,hl,ho,hB,hN=>by
  obtain⟨y,W,v',U,a1,a2,a3,a4⟩:=hB.push ho hN (by omega) 0;have nU:=a4.next
  obtain⟨v2,T,t1,t2,t4⟩:=L39p_spec (m:=m) (Nn:=Nn) (v0:=v0) (v1:=v1) nk ek d q v' (bs++[0]) U (by rw[lAq,List.length_singleton]; omega) (by omega) (by omega) (by rw[lAq,List.length_singleton]; omega) (a4.on.trans ho) a3 (by omega);rw[List.append_assoc,show [(0:UInt8)]++List.replicate d 0=List.replicate (d+1) 0 from rfl]at t2;refine⟨v2,T,?_,t2,a4.trans t4⟩;rw[L99_39_eq,hB.len,oB];dsimp only;rw[rem64,oB,neq56,oB,dF (by omega),nF,ifK_bool,cT,show(V.int .u8 0)=.int .u8 (((0:UInt8).toNat:Nat):Int)from rfl];rw[show bsP 5 1 1 (Ev.one (.int .u8 (((0:UInt8).toNat:Nat):Int))) [(0,.int .u8 (((0:UInt8).toNat:Nat):Int))] S=_ from a1,oB];dsimp only;rw[a2,oB,t1]
theorem sub7 {i:Nat} (h:i<=7):qa4 E0 .sub 3 true false (.int .i64 7) (.int .i64 (i:Int))=some (.int .i64 ((7-i:Nat):Int)):=by
 rw[binV_ii,intsV_sub,show((7:Int)-(i:Int))=((7-i:Nat):Int) by omega,qbg (by omega) (by omega)]
theorem mul8 {i:Nat} (h:i<1000):qa4 E0 .mul 3 true false (.int .i64 8) (.int .i64 (i:Int))=some (.int .i64 ((8*i:Nat):Int)):=by
 rw[binV_ii,intsV_mul,show((8:Int)*(i:Int))=((8*i:Nat):Int) by omega,qbg (by omega) (by omega)]
theorem mulU8 {n:Nat} (h:n<1000000) (c d:Bool):qa4 E0 .mul 108 c d (.int .u64 (n:Int)) (.int .u64 8)=some (.int .u64 ((n*8:Nat):Int)):=by
 rw[binV_ii,intsV_mul,show((n:Int)*8)=((n*8:Nat):Int) by omega,wrap_u64 (by omega) (by omega)]
theorem shrU (a:Nat) {n:Nat} (hn:n<=64) (c d:Bool) (k:IntKind):qa4 E0 .shr 108 c d (.int .u64 (a:Int)) (.int k (n:Int))=some (.int .u64 ((a/2^n:Nat):Int)):=by
 show some (V.int .u64 ((a:Int).fdiv (.ofNat (2^min n 64))))=_;rw[Nat.min_eq_left hn,show(a:Int).fdiv (Int.ofNat (2^n))=(a:Int)/((2^n:Nat):Int)from Int.fdiv_eq_ediv_of_nonneg _ (Int.natCast_nonneg _)];rfl
theorem cv8n (k:IntKind) (a:Nat) (S:St):cvI .u8 (.int k (a:Int)) S=some (.int .u8 ((UInt8.ofNat a).toNat:Int),S):=by
 rw[cvI_int,u8_wrap,UInt8.toNat_ofNat']
theorem L20p_spec {m Nn xb:Nat} {v0:V} {s:Bs} (hs:s.length<80000) (nk:Ac->St->Rs) (ek:Nat->Ac->St->Rs) :
 ∀(d i q:Nat) (v:V) (bs:Bs) (S:St),i+d=8->d<q->S.on=false->One S xb 9 (sv s)->xb<N->BQ S v bs N->N<=S.next->bs.length<90000+i->
 ∃v' U,L99_20 (ev E0 KH m) Nn nk ek q v0 (.ptr xb 0) v (.int .i64 (i:Int)) S=ek 2 (fr 42 [(0,v0),(3,v')]) U/\BQ U v' (bs++lens s.length d i) N/\Grew (fun x=>N<=x) S U
 | _,_,0,_,_,_,_,hq,_,_,_,_,_,_=>by omega
 | 0,i,q+1,v,bs,S,hi,hq,ho,hx,hxb,hB,hN,hl=>by
  refine⟨v,S,?_,by unfold lens; rw[List.append_nil]; exact hB,Grew.refl _ _⟩;rw[L99_20_eq,qmj,dF (by omega),oB,ifK_bool,cF]
 | d+1,i,q+1,v,bs,S,hi,hq,ho,hx,hxb,hB,hN,hl=>by
  obtain⟨z,W,v',U,a1,a2,a3,a4⟩:=hB.push ho hN (by omega) (qmx s.length i);have nU:=a4.next
  obtain⟨v2,T,t1,t2,t4⟩:=L20p_spec (m:=m) (Nn:=Nn) (v0:=v0) (s:=s) hs nk ek d (i+1) q v' (bs++[qmx s.length i]) U (by omega) (by omega) (a4.on.trans ho) (hx.grew (by omega) (by omega) a4) hxb a3 (by omega) (by rw[lAq,List.length_singleton]; omega);rw[List.append_assoc,show [qmx s.length i]++lens s.length d (i+1)=lens s.length (d+1) i from rfl]at t2;refine⟨v2,T,?_,t2,a4.trans t4⟩;rw[L99_20_eq,qmj,dT (by omega),oB,ifK_bool,cT,hx.ld ho,oB];dsimp only;rw[qa5,oB];dsimp only;rw[cvI_int,wrap_u64 (by omega) (by omega),oB];dsimp only;rw[mulU8 (by omega),oB,sub7 (by omega),oB,mul8 (by omega),oB,shrU _ (by omega),oB,cv8n,oB];dsimp only;unfold qmx at a1;rw[a1,oB];dsimp only;rw[a2,oB];dsimp only;rw[qc1 (by omega),oB,t1]
theorem undB43:und E0 43=some (.slice 5):=by kernel_rfl
theorem conv_bytes (s:Bs):qbe E0 9 43 (sv s) S=some (.oslice S.next 0 s.length 1,qae S 5 1 (s.map qbb)):=by
 unfold qbe;rw[undB43,und9];simp only[oB,qch,Bool.or_self,cF,sv,und5];have:=qha s.length s (lR _);rw[List.take_length]at this;rw[this]
structure Lh (S:St) (hb kb l:Nat) (hf kf:Nat->UInt32):Prop where
 h:Arr S hb 88 8 hf
 k:Arr S kb 89 64 kf
 rcd:S.heap.get l=some (qcv 0 none (.ptr hb 0) (.ptr kb 0))
 hl:hb<S.next
 kl:kb<S.next
 ll:l<S.next
 hk:kb≠hb
 lh:l≠hb
 lk:l≠kb
theorem Lh.grew {W:Nat->Prop} (L:Lh S hb kb l hf kf) (g:Grew W S T) (hw:∀b,b<S.next->¬W b):Lh T hb kb l hf kf:=by
 have:=g.next
 exact⟨L.h.grew L.hl (hw _ L.hl) g,L.k.grew L.kl (hw _ L.kl) g,by rw[g.keep l L.ll (hw _ L.ll)]; exact L.rcd,Nat.lt_of_lt_of_le L.hl this,Nat.lt_of_lt_of_le L.kl this,Nat.lt_of_lt_of_le L.ll this,L.hk,L.lh,L.lk⟩
theorem round27 (m:Nat) (L:Lh S hb kb l hf kf) {w:V} {g:Nat->UInt8} (hB:Blk S w g) (hne:∀r off,w=.oslice r off 64 1->r≠hb/\r≠l):∃U,qc8 E0 (ev E0 KH (m+5)) (.yield l) [w] S=some (.ret (.bool true),U)/\Lh U hb kb l (qiv kf hf g) kf/\Grew (fun b=>b=hb\/b=l) S U:=by
 have ho:=L.h.1;have hhl:=L.hl; have hkl:=L.kl; have hll:=L.ll; have hhk:=L.hk; have hlh:=L.lh; have hlk:=L.lk;have g1:Grew (fun x=>x=l) S (S.put l (qcv 2 none (.ptr hb 0) (.ptr kb 0))):=qd8 _ _;have hr1:(S.put l (qcv 2 none (.ptr hb 0) (.ptr kb 0))).heap.get l=some (qcv 2 none (.ptr hb 0) (.ptr kb 0)):=by rw[qc0,iP rfl]
 have hmid:midR l (frR 40 [(3,.ptr hb 0),(4,.ptr kb 0),(5,w),(15,w)] l) S=fun k=>k (S.put l (qcv 2 none (.ptr hb 0) (.ptr kb 0))):=funext fun k=>midR_of ho L.rcd rfl;have n1:(S.put l (qcv 2 none (.ptr hb 0) (.ptr kb 0))).next=S.next:=rfl
 generalize S.put l (qcv 2 none (.ptr hb 0) (.ptr kb 0))=S1 at g1 hr1 hmid n1;have h1:Arr S1 hb 88 8 hf:=L.h.grew hhl (fun e=>hlh e.symm) g1;have k1:Arr S1 kb 89 64 kf:=L.k.grew hkl (fun e=>hlk e.symm) g1;obtain⟨a,a1,_,a2⟩:=h1.all qf1;obtain⟨b,S2,b1,b2,b3⟩:=f54_run m h1.1 a2 (hB.grew (fun r off hr e=>(hne r off hr).2 e) g1) k1 (by omega);have n2:=b3.next
 have h2:Arr S2 hb 88 8 hf:=h1.grew (by omega) (fun h=>h) b3;have k2:Arr S2 kb 89 64 kf:=k1.grew (by omega) (fun h=>h) b3;obtain⟨S3,c1,c2,c3,c4⟩:=h2.put qf1 b2;have k3:Arr S3 kb 89 64 kf:=k2.grew (by omega) hhk c3
 have hr3:S3.heap.get l=some (qcv 2 none (.ptr hb 0) (.ptr kb 0)):=by
  rw[c3.keep l (by omega) hlh,b3.keep l (by omega) (fun h=>h)]; exact hr1
 have g4:Grew (fun x=>x=l) S3 (S3.put l (qcv 0 none (.ptr hb 0) (.ptr kb 0))):=qd8 _ _;refine⟨S3.put l (qcv 0 none (.ptr hb 0) (.ptr kb 0)),?_,⟨c2.grew (by omega) (fun e=>hlh e.symm) g4,k3.grew (by omega) (fun e=>hlk e.symm) g4,by rw[qc0,iP rfl],by show hb<S3.next; omega,by show kb<S3.next; omega,by show l<S3.next; omega,hhk,hlh,hlk⟩,?_⟩
 . refine round_run (da:=DA36_40) (db:=DB36_40) ho L.rcd (qa3 YA36_40 _ (by kernel_rfl)) (qa3 YB36_40 _ (by kernel_rfl)) (?_:Y36_40 (ev E0 KH (m+4)) qa1 l (.ptr hb 0) (.ptr kb 0) w S=_)
   rw[Y36_40_eq,hmid];dsimp only;rw[a1,oB];dsimp only;rw[b1,callE_ret,c1,oB];exact endRound_of c2.1 hr3
 . exact(g1.mono fun x _ e=>.inr e).trans ((b3.mono fun _ _ h=>h.elim).trans ((c3.mono fun x _ e=>.inl e).trans (g4.mono fun x _ e=>.inr e)))
theorem gtr0 (n:Nat):qa4 E0 .gtr 3 false true (.int .i64 (n:Int)) (.int .i64 0)=some (.bool (decide (0<n))):=by
 rw[binV_ii,intsV_gtr]
 congr 2
 simp
theorem size5:Ev.sizeT E0 5=some 1:=by kernel_rfl
end
def qk5 (kf:Nat->UInt32) (p:Bs):Nat->Nat->(Nat->UInt32)->Nat->UInt32
 | 0,_,h=>h
 | c+1,off,h=>qk5 kf p c (off+64) (qiv kf h fun i=>p.getD (off+i) 0)
section
variable {S T U:St} {v:V} {N hb kb l:Nat} {hf kf:Nat->UInt32}
theorem cut_headO {p:Bs} {r off c:Nat} (ho:S.on=false) (h:RowAt S r 5 1 (p.map qbb)) (hc:off+64*(c+1)=p.length):qb6 E0 43 (.oslice r off (64*(c+1)) 1) none (some (.int .i64 64)) none S=some (.oslice r off 64 1,S):=by
 unfold qb6;rw[undB43,oB];simp only;rw[size5,oB,show(Nat.beq 1 1&&Nat.blt 0 1)=true from rfl,cT,sizeB_off ho h,oB,lM];dsimp only;rw[Nat.div_one,show V.int .i64 64=.int .i64 ((64:Nat):Int)from rfl,qep .i64 (show 64<=p.length-off by omega),oB];dsimp only;rw[blt_true.2 (show 0<p.length-off by omega),cT,Nat.zero_mul,Nat.add_zero,Nat.sub_zero]
theorem cut_tailO {p:Bs} {r off c:Nat} (ho:S.on=false) (h:RowAt S r 5 1 (p.map qbb)) (hc:off+64*(c+1)=p.length):qb6 E0 43 (.oslice r off (64*(c+1)) 1) (some (.int .i64 64)) none none S=some (if c=0 then .eslice else .oslice r (off+64) (64*c) 1,S):=by
 unfold qb6;rw[undB43,oB];simp only;rw[size5,oB,show(Nat.beq 1 1&&Nat.blt 0 1)=true from rfl,cT,sizeB_off ho h,oB,lM];dsimp only;rw[Nat.div_one,show V.int .i64 64=.int .i64 ((64:Nat):Int)from rfl,qfi .i64 (show 64<=64*(c+1) by omega),oB];dsimp only;by_cases h0:c=0
 . subst h0
   rw[show Nat.blt 64 (p.length-off)=false from blt_false.2 (by omega),cF,iP rfl];rfl
 . rw[blt_true.2 (show 64<p.length-off by omega),cT,iN h0,Nat.mul_one,show 64*(c+1)-64=64*c by omega]
theorem L7p_spec {m Nn:Nat} (nk:Ac->St->Rs) (ek:Nat->Ac->St->Rs) {r:Nat} {p:Bs} (hrh:r≠hb) (hrl:r≠l) :
 ∀(c off q:Nat) (hf:Nat->UInt32) (S:St),off+64*c=p.length->c<q->Lh S hb kb l hf kf->RowAt S r 5 1 (p.map qbb)->r<S.next->
 ∃U,L99_7 (ev E0 KH (m+5)) Nn nk ek q (.yield l) (if c=0 then .eslice else .oslice r off (64*c) 1) S=ek 4 (fr 42 []) U/\Lh U hb kb l (qk5 kf p c off hf) kf/\Grew (fun b=>b=hb\/b=l) S U
 | _,_,0,_,_,_,hq,_,_,_=>by omega
 | 0,off,q+1,hf,S,hc,hq,L,hr,hrn=>by
  refine⟨S,?_,L,Grew.refl _ _⟩;rw[iP rfl,L99_7_eq,qjc (n:=0) (fun _ _ e=>by cases e) rfl,oB];dsimp only;rw[gtr0,dF (by omega),oB,ifK_bool,cF]
 | c+1,off,q+1,hf,S,hc,hq,L,hr,hrn=>by
  have ho:=L.h.1
  have hB:Blk S (.oslice r off 64 1) fun i=>p.getD (off+i) 0:=⟨r,off,p,rfl,hr,fun i hi=>by
   show p[off+i]?=some (p.getD (off+i) 0)
   rw[List.getD_eq_getElem?_getD,List.getElem?_eq_getElem (by omega)]; rfl,hrn⟩
  obtain⟨S1,a1,a2,a3⟩:=round27 m L hB (fun r' off' e=>by cases e; exact⟨hrh,hrl⟩);have on1:=a2.h.1;have hr1:=hr.grew hrn (fun e=>by rcases e with e|e; exact hrh e; exact hrl e) a3;have n1:=a3.next
  obtain⟨U,t1,t2,t3⟩:=L7p_spec (m:=m) (Nn:=Nn) nk ek hrh hrl c (off+64) q _ S1 (by omega) (by omega) a2 hr1 (by omega);refine⟨U,?_,t2,a3.trans t3⟩;rw[iN (by omega),L99_7_eq,qjc (n:=64*(c+1)) (fun _ _ e=>by cases e) rfl,oB];dsimp only;rw[gtr0,dT (by omega),oB,ifK_bool,cT,cut_headO ho hr hc,oB];dsimp only;rw[a1,callP_ret,unV_not,oB,ifK_bool,Bool.not_true,cF,cut_tailO on1 hr1 hc,oB];dsimp only;exact t1
theorem sh_f83_run (m:Nat) (L:Lh S hb kb l hf kf) {xb:Nat} {s:Bs} (hx:One S xb 9 (sv s)) (hxl:xb<S.next) (hs:s.length<80000):∃U,(ev E0 KH (m+6)).f 99 [.yield l,.ptr xb 0] S=some (.ret (.tuple []),U)/\Lh U hb kb l (qk5 kf (qeu s) ((qeu s).length/64) 0 hf) kf/\Grew (fun b=>b=hb\/b=l) S U:=by
 have ho:=L.h.1;have hhl:=L.hl; have hll:=L.ll;have g1:Grew (fun _=>False) S (qae S 5 1 (s.map qbb)):=qca ho _ _;have b1:BQ (qae S 5 1 (s.map qbb)) (.oslice S.next 0 s.length 1) s S.next:=⟨S.next,rfl,qd6 ho (by omega) (by rw[lM]; unfold big; omega),by show S.next<S.next+1; omega,lR _⟩
 have n1:(qae S 5 1 (s.map qbb)).next=S.next+1:=rfl
 have hconv:=conv_bytes (S:=S) s;generalize qae S 5 1 (s.map qbb)=S1 at g1 b1 n1 hconv;have on1:=g1.on.trans ho;obtain⟨y,W,v2,S2,a1,a2,a3,a4⟩:=b1.push on1 (by omega) (by omega) 128;have n2:=a4.next
 have on2:=a4.on.trans on1;have hpl:(s++[128]).length=s.length+1:=by rw[lAq]; rfl
 obtain⟨v3,S3,c1,c2,c4⟩:=L39p_spec (m:=m+5) (Nn:=qa1) (v0:=.yield l) (v1:=.ptr xb 0) (R99_5 (ev E0 KH (m+5)) qa1 (qat E0 (ev E0 KH (m+5)) Tryz.f99) qad) (exB 0 (R99_5 (ev E0 KH (m+5)) qa1 (qat E0 (ev E0 KH (m+5)) Tryz.f99) qad) qad) (padN s.length) qa1 v2 (s++[128]) S2 (by rw[hpl]; unfold padN; omega) (by unfold padN; omega) (by unfold padN qa1; omega) (by rw[hpl]; unfold padN; omega) on2 a3 (by omega);have n3:=c4.next
 have on3:=c4.on.trans on2;have hx3:One S3 xb 9 (sv s):=((hx.grew hxl (fun h=>h) g1).grew (by omega) (by omega) a4).grew (by omega) (by omega) c4;obtain⟨v4,S4,d1,d2,d4⟩:=L20p_spec (m:=m+5) (Nn:=qa1) (v0:=.yield l) (s:=s) hs (R99_6 (ev E0 KH (m+5)) qa1 (fun a s=>qa7 [] a fun a=>qat E0 (ev E0 KH (m+5)) Tryz.f99 a s) qad) (exB 2 (R99_6 (ev E0 KH (m+5)) qa1 (fun a s=>qa7 [] a fun a=>qat E0 (ev E0 KH (m+5)) Tryz.f99 a s) qad) qad) 8 0 qa1 v3 _ S3 rfl (by unfold qa1; omega) on3 hx3 (by omega) c2 (by omega) (by rw[lAq,List.length_replicate,hpl]; unfold padN; omega);have n4:=d4.next
 have on4:=d4.on.trans on3;rw[show s++[128]++List.replicate (padN s.length) 0++lens s.length 8 0=qeu s from rfl]at d2;obtain⟨c,hc,hc0,hcl⟩:=padded_len s;have hdiv:(qeu s).length/64=c:=by omega
 rw[hdiv];have g04:Grew (fun _=>False) S S4:=Grew.then (Grew.then (Grew.then g1 a4 fun x hx e=>by omega) c4 fun x hx e=>by omega) d4 fun x hx e=>by omega
 have L4:=L.grew g04 fun _ _ h=>h;obtain⟨r,rfl,e1,e2,e3⟩:=d2;obtain⟨U,t1,t2,t3⟩:=L7p_spec (m:=m) (Nn:=qa1) (hb:=hb) (l:=l) (kb:=kb) (fun a s=>qa7 [] a fun a=>(fun a s=>qa7 [] a fun a=>qat E0 (ev E0 KH (m+5)) Tryz.f99 a s) a s) (exB 4 (fun a s=>qa7 [] a fun a=>(fun a s=>qa7 [] a fun a=>qat E0 (ev E0 KH (m+5)) Tryz.f99 a s) a s) qad) (r:=r) (p:=qeu s) (by omega) (by omega) c 0 qa1 hf S4 (by omega) (by unfold qa1; omega) L4 e1 e2;rw[iN (by omega)]at t1;refine⟨U,rs83 ?_,t2,(g04.mono fun _ _ h=>h.elim).trans t3⟩;show F99 (ev E0 KH (m+5)) qa1 (.yield l) (.ptr xb 0) S=_;rw[F99_eq,hx.ld ho,oB];dsimp only;rw[hconv,oB];dsimp only;rw[show(V.int .u8 128)=.int .u8 (((128:UInt8).toNat:Nat):Int)from rfl,a1,oB];dsimp only;rw[a2,oB];dsimp only;refine c1.trans ?_;rw[exB_same,R99_5_eq,show V.int .i64 0=.int .i64 ((0:Nat):Int)from rfl];refine d1.trans ?_;rw[exB_same,R99_6_eq,hc];refine Eq.trans t1 ?_;rw[exB_same]
 kernel_rfl
end
def rootW (ab:Nat->Nat->Bool) (p:Nat):UInt32:=UInt32.ofNat (rootF ab p 36 0 68719476736)
theorem rootC_w (ab:Nat->Nat->Bool) (p:Nat):V.int .u32 (rootC ab p)=w32 (rootW ab p):=by
 unfold rootC rootW w32;rw[qjw,UInt32.toNat_ofNat']
theorem qk9 (g:Nat->Int):∀(r:List Nat) (i:Nat) (t:Tr V) (j:Nat),(qg9 g r i t).get j=if i<=j/\j<i+r.length then some (.int .u32 (g (r.getD (j-i) 0)))else t.get j
 | [],i,t,j=>by rw[iN (by simp)]; rfl
 | p::r,i,t,j=>by
  show(qg9 g r (i+1) (t.set (.int .u32 (g p)) i)).get j=_;rw[qk9 g r (i+1),Tr.get_set];by_cases e:j=i
  . subst e
    rw[iN (by omega),iP rfl,iP (by rw[List.length_cons]; omega),Nat.sub_self]; rfl
  . by_cases h:i+1<=j/\j<i+1+r.length
    . rw[iP h,iP (by rw[List.length_cons]; omega),show j-i=(j-(i+1))+1 by omega]; rfl
    . rw[iN h,iN e,iN (by rw[List.length_cons]; omega)]
def hW (i:Nat):UInt32:=rootW qef (P52.getD i 0)
def kW (i:Nat):UInt32:=rootW qiy (P52.getD i 0)
theorem tA_w:∀i,i<8->tA.get i=some (w32 (hW i)):=fun i hi=>by
 unfold tA hW;rw[qk9,iP ⟨Nat.zero_le _,by rw[List.length_take,p52_len]; omega⟩,Nat.sub_zero,rootC_w,List.getD_eq_getElem?_getD,List.getD_eq_getElem?_getD,List.getElem?_take_of_lt hi]
theorem tB_w:∀i,i<64->tB.get i=some (w32 (kW i)):=fun i hi=>by
 unfold tB kW;rw[qk9,iP ⟨Nat.zero_le _,by rw[p52_len]; omega⟩,Nat.sub_zero,rootC_w]
def qf2 (f:Nat->UInt32):Nat->Nat->Bs
 | 0,_=>[]
 | d+1,i=>[b8 (sr (f i) 24),b8 (sr (f i) 16),b8 (sr (f i) 8),b8 (f i)]++qf2 f d (i+1)
def sumB (s:Bs):Bs:=qf2 (qk5 kW (qeu s) ((qeu s).length/64) 0 hW) 8 0
theorem bytesW_len (f:Nat->UInt32):∀d i,(qf2 f d i).length=4*d
 | 0,_=>rfl
 | d+1,i=>by unfold qf2; rw[lAq,bytesW_len f d]; show 4+4*d=_; omega
theorem qjt (s:Bs):(sumB s).length=32:=bytesW_len _ 8 0
theorem rs27 {n:Nat} {args:List V} {s:St} {r:En×St} (e:qaq E0 (ev E0 KH n) qa1 Tryz.f36 B36 args s=some r):(ev E0 KH (n+1)).f 36 args s=some r:=qa6 (c:=C36) (d:=B36) (by kernel_rfl) (by kernel_rfl) (qa3 C36 _ (by kernel_rfl)) rfl e
section
variable {S T U:St} {v:V} {bs:Bs} {N:Nat}
def BQo (S:St) (v:V) (bs:Bs) (N:Nat):Prop:=(bs=[]/\v=.nilslice)\/(bs≠[]/\BQ S v bs N)
theorem fourB (ho:S.on=false) (a b c d:UInt8):∃U,bsP 5 1 4 (Ev.one (.int .u8 0)) [(0,.int .u8 (a.toNat:Int)),(1,.int .u8 (b.toNat:Int)),(2,.int .u8 (c.toNat:Int)),(3,.int .u8 (d.toNat:Int))] S=some (.slice S.next 0 4 4,U)/\RowAt U S.next 5 1 ([a,b,c,d].map qbb)/\Grew (fun _=>False) S U/\U.next=S.next+1:=by
 obtain⟨U,a1,a2,a3,a4⟩:=qe5 ho 5 (Ev.one (.int .u8 0)) [.int .u8 (a.toNat:Int),.int .u8 (b.toNat:Int),.int .u8 (c.toNat:Int),.int .u8 (d.toNat:Int)] (fun v hv=>by
  simp only[List.mem_cons,List.not_mem_nil,or_false]at hv
  rcases hv with rfl|rfl|rfl|rfl<;>exact⟨rfl,rfl,rfl,rfl⟩) (by show 4<big; unfold big; decide)
 exact⟨U,a1 none,a2,a3,a4⟩
theorem rw_four {r:Nat} {L:List (Tr V)} (ho:S.on=false) (h:RowAt S r 5 1 L) (hl:L.length=4):RwS S (.slice r 0 4 4) 1 L:=by
 refine⟨by rw[hl]; rfl,?_⟩;have:=h.ldN ho 4 0 (by omega);rw[List.drop_zero,List.take_of_length_le (by omega),Nat.zero_mul]at this;rw[hl];exact this
theorem BQo.four (h:BQo S v bs N) (ho:S.on=false) (hN:N<=S.next) (hl:bs.length<1000) (a b c d:UInt8):∃W v' U,bsP 5 1 4 (Ev.one (.int .u8 0)) [(0,.int .u8 (a.toNat:Int)),(1,.int .u8 (b.toNat:Int)),(2,.int .u8 (c.toNat:Int)),(3,.int .u8 (d.toNat:Int))] S=some (.slice S.next 0 4 4,W)/\apP 5 1 1 v (.slice S.next 0 4 4) W=some (v',U)/\BQo U v' (bs++[a,b,c,d]) N/\Grew (fun x=>N<=x) S U:=by
 obtain⟨W,h1,h2,h3,h4⟩:=fourB ho a b c d;have on1:=h3.on.trans ho;have hR:=rw_four on1 h2 rfl;rcases h with⟨rfl,rfl⟩|⟨hne,r,rfl,hr,hr2,hr3⟩
 . have gn:Grew (fun _=>False) W (qae W 5 1 ([a,b,c,d].map qbb)):=qca on1 _ _
   refine⟨W,.oslice W.next 0 4 1,qae W 5 1 ([a,b,c,d].map qbb),h1,?_,.inr ⟨by simp,W.next,rfl,qd6 on1 (by omega) (by show 1*4<big; unfold big; decide),by show W.next<W.next+1; omega,by omega⟩,(h3.trans gn).mono fun _ _ h=>h.elim⟩;unfold apP;rw[hR.1,oB,show lenV .nilslice=some 0 from rfl,oB,show Nat.blt ((0+([a,b,c,d].map qbb).length)*(1+1+1)) qac=true from blt_true.2 (by show 12<qac; unfold qac; omega),cT];unfold qc3;rw[hR.2,oB];rfl
 . have hrow:=hr.grew hr2 (fun h=>h) h3
   obtain⟨U,k1,k2,k3,k4⟩:=app_more (B:=1) on1 hrow hR (by simp) (by rw[lM,lM]; show(bs.length+4)*3<qac; unfold qac; omega) (by rw[lM,lM]; show 1*(bs.length+4)<big; unfold big; omega);rw[lM,lM]at k1;refine⟨W,_,U,h1,k1,.inr ⟨by simp,W.next,by rw[lAq],by rw[List.map_append]; exact k2,by omega,by omega⟩,(h3.mono fun _ _ h=>h.elim).trans (k3.mono fun x _ e=>by subst e; exact hr3)⟩
theorem conv_out (ho:S.on=false) (h:BQo S v bs N) (hb:bs≠[]):qbe E0 43 9 v S=some (sv bs,S):=by
 rcases h with⟨rfl,_⟩|⟨_,r,rfl,h2,_⟩
 . exact absurd rfl hb
 . unfold qbe
   rw[undB43,und9];simp only[oB,qch,Bool.or_self,cF,und5,lenV];have:=firstV_row ho h2 (off:=0) (len:=bs.length) (by omega);unfold qbc;simp only;rw[this];simp only[oB,qfz];rw[List.drop_zero,List.take_of_length_le (lR _)];rfl
theorem ixV8 {a:V} {f:Nat->UInt32} (h:AggV 8 a f) {i:Nat} (hi:i<8):ixV 8 1 false 1 a (.int .i64 (i:Int))=some (w32 (f i)):=by
 obtain⟨t,rfl,ht⟩:=h;show(bif Nat.blt i 8 then partR false 1 8 t (i*1)else none)=_;rw[blt_true.2 hi,cT,Nat.mul_one];show(bif Nat.blt i 8 then t.get i else none)=_;rw[blt_true.2 hi,cT,ht i hi]
theorem L17_spec {m Nn:Nat} {a:V} {f:Nat->UInt32} (ha:AggV 8 a f) (nk:Ac->St->Rs) (ek:Nat->Ac->St->Rs) (ds:List AD) :
 ∀(d i q:Nat) (v:V) (bs:Bs) (S:St),i+d=8->d<q->S.on=false->BQo S v bs N->bs.length=4*i->N<=S.next->
 ∃v' U,L36_17 (ev E0 KH m) Nn nk ek q ds v a (.int .i64 (i:Int)) S=ek 2 (frD 40 [(6,v')] ds) U/\BQo U v' (bs++qf2 f d i) N/\Grew (fun x=>N<=x) S U
 | _,_,0,_,_,_,_,hq,_,_,_,_=>by omega
 | 0,i,q+1,v,bs,S,hi,hq,ho,hB,hl,hN=>by
  refine⟨v,S,?_,by unfold qf2; rw[List.append_nil]; exact hB,Grew.refl _ _⟩;rw[L36_17_eq,qmj,dF (by omega),oB,ifK_bool,cF]
 | d+1,i,q+1,v,bs,S,hi,hq,ho,hB,hl,hN=>by
  have hi8:i<8:=by omega
  have hn:=ixV8 ha hi8;obtain⟨W,v',U,k1,k2,k3,k4⟩:=hB.four ho hN (by omega) (b8 (sr (f i) 24)) (b8 (sr (f i) 16)) (b8 (sr (f i) 8)) (b8 (f i));have nU:=k4.next
  obtain⟨v2,T,t1,t2,t4⟩:=L17_spec (m:=m) (Nn:=Nn) ha nk ek ds d (i+1) q v' (bs++[b8 (sr (f i) 24),b8 (sr (f i) 16),b8 (sr (f i) 8),b8 (f i)]) U (by omega) (by omega) (k4.on.trans ho) k3 (by rw[lAq]; show bs.length+4=_; omega) (by omega);rw[List.append_assoc,show [b8 (sr (f i) 24),b8 (sr (f i) 16),b8 (sr (f i) 8),b8 (f i)]++qf2 f d (i+1)=qf2 f (d+1) i from rfl]at t2;refine⟨v2,T,?_,t2,k4.trans t4⟩;rw[L36_17_eq,qmj,dT hi8,oB,ifK_bool,cT,hn,oB,show V.int .u64 24=.int .u64 ((24:Nat):Int)from rfl,qlb _ _ _ _ (by omega),oB,cv8w,oB];dsimp only;rw[show V.int .u64 16=.int .u64 ((16:Nat):Int)from rfl,qlb _ _ _ _ (by omega),oB,cv8w,oB];dsimp only;rw[show V.int .u64 8=.int .u64 ((8:Nat):Int)from rfl,qlb _ _ _ _ (by omega),oB,cv8w,oB];dsimp only;rw[cv8w,oB];dsimp only;rw[k1,oB];dsimp only;rw[k2,oB];dsimp only;rw[qc1 (by omega),oB,t1]
theorem kd52:KH 72=some kfConst:=rfl
theorem consts (n:Nat) (S:St):∃a b,(ev E0 KH (n+1)).f 72 [] S=some (.ret (.tuple [a,b]),S)/\AggV 8 a hW/\AggV 64 b kW:=⟨_,_,by rw[qc9 kd52,kfConst_run],⟨tA,rfl,tA_w⟩,⟨tB,rfl,tB_w⟩⟩
theorem body83:E0.ext.get 99=none/\qb5 E0 99=true:=⟨by kernel_rfl,by kernel_rfl⟩
theorem lv27 {self:EV} (v x y z:V) (S:St) (ds:List AD):qbp E0 self Tryz.f36 (frD 40 [(2,v),(6,x),(38,y),(39,z)] ds) [] .ret S=some (.ret v,S):=by kernel_rfl
theorem sum_run (m:Nat) (ho:S.on=false) (s:Bs) (hs:s.length<80000):∃U,(ev E0 KH (m+8)).f 36 [sv s] S=some (.ret (sv (sumB s)),U)/\Grew (fun _=>False) S U:=by
 obtain⟨a,b,c1,c2,c3⟩:=consts (m+6) S;obtain⟨a1,a2,a3⟩:=Arr.newOf ho 88 8 (zeros 8 [(.int .u32 0),(.int .u32 0),(.int .u32 0),(.int .u32 0),(.int .u32 0),(.int .u32 0),(.int .u32 0),(.int .u32 0)] rfl);have ea:nwP 88 8 (Tr.ofListFrom .nil [(.int .u32 0),(.int .u32 0),(.int .u32 0),(.int .u32 0),(.int .u32 0),(.int .u32 0),(.int .u32 0),(.int .u32 0)] 0) S=(.ptr S.next 0,(nwP 88 8 (Tr.ofListFrom .nil [(.int .u32 0),(.int .u32 0),(.int .u32 0),(.int .u32 0),(.int .u32 0),(.int .u32 0),(.int .u32 0),(.int .u32 0)] 0) S).2):=rfl;generalize (nwP 88 8 (Tr.ofListFrom .nil [(.int .u32 0),(.int .u32 0),(.int .u32 0),(.int .u32 0),(.int .u32 0),(.int .u32 0),(.int .u32 0),(.int .u32 0)] 0) S).2=S1 at a1 a2 a3 ea;have on1:=a1.1;obtain⟨b1,b2,b3⟩:=Arr.newOf on1 89 64 (zeros 64 (List.replicate 64 (.int .u32 0)) rfl);have eb:nwP 89 64 (Tr.ofListFrom .nil (List.replicate 64 (.int .u32 0)) 0) S1=(.ptr S1.next 0,(nwP 89 64 (Tr.ofListFrom .nil (List.replicate 64 (.int .u32 0)) 0) S1).2):=rfl;generalize (nwP 89 64 (Tr.ofListFrom .nil (List.replicate 64 (.int .u32 0)) 0) S1).2=S2 at b1 b2 b3 eb;have h2:Arr S2 S.next 88 8 _:=a1.grew (by omega) (fun h=>h) b2
 obtain⟨S3,d1,d2,d3,d4⟩:=h2.put qf1 c2;have k3:Arr S3 S1.next 89 64 _:=b1.grew (by omega) (by omega) d3
 obtain⟨S4,e1,e2,e3,e4⟩:=k3.put qfa c3;have h4:Arr S4 S.next 88 8 hW:=d2.grew (by omega) (by omega) e3
 have on4:=e2.1
 obtain⟨S5,f1,f2,f3,f4⟩:∃S5,(ev E0 KH (m+7)).f 73 [sv s] S4=some (.ret (.fn (.func 99) [] [.ptr S4.next 0]),S5)/\One S5 S4.next 9 (sv s)/\Grew (fun _=>False) S4 S5/\S5.next=S4.next+1:=by
  refine⟨qae S4 9 1 [Ev.one (sv s)],rs53 ?_,qd6 on4 (by omega) (by show 1*1<big; unfold big; decide),qca on4 _ _,rfl⟩;show F73 (ev E0 KH (m+6)) qa1 (sv s) S4=_;rw[F73_eq];rfl
 have on5:=f3.on.trans on4;have g6:Grew (fun _=>False) S5 (nw (nw S5 .defb) (qcv 0 none (.ptr S.next 0) (.ptr S1.next 0))):=(qca on5 _ _).trans (qca (nw_on on5 _) _ _);have n6:(nw (nw S5 .defb) (qcv 0 none (.ptr S.next 0) (.ptr S1.next 0))).next=S5.next+2:=rfl
 have hd6:(nw (nw S5 .defb) (qcv 0 none (.ptr S.next 0) (.ptr S1.next 0))).heap.get S5.next=some .defb:=by
  rw[qdv,iN (by show S5.next≠S5.next+1; omega),qdv,iP rfl]
 have hl6:(nw (nw S5 .defb) (qcv 0 none (.ptr S.next 0) (.ptr S1.next 0))).heap.get (S5.next+1)=some (qcv 0 none (.ptr S.next 0) (.ptr S1.next 0)):=by
  rw[qdv]; exact iP rfl
 have hrange:=fun(self:EV) (kn kr:St->Rs) (ke:Nat->St->Rs) (kp:V->St->Rs)=>rangeP_fn (s:=S5) (self:=self) (first:=[]) (captured:=[.ptr S4.next 0]) (o:=qcv 0 none (.ptr S.next 0) (.ptr S1.next 0)) (kn:=kn) (kr:=kr) (ke:=ke) (kp:=kp) body83.1 body83.2;generalize nw (nw S5 .defb) (qcv 0 none (.ptr S.next 0) (.ptr S1.next 0))=S6 at g6 n6 hd6 hl6 hrange;have on6:=g6.on.trans on5;have L:Lh S6 S.next S1.next (S5.next+1) hW kW:=⟨(h4.grew (by omega) (fun h=>h) f3).grew (by omega) (fun h=>h) g6,(e2.grew (by omega) (fun h=>h) f3).grew (by omega) (fun h=>h) g6,hl6,by omega,by omega,by omega,by omega,by omega,by omega⟩
 obtain⟨S7,p1,p2,p3⟩:=sh_f83_run (m+1) L (f2.grew (by omega) (fun h=>h) g6) (by omega) hs;have n7:=p3.next
 have g8:Grew (fun b=>b=S5.next+1) S7 (S7.put (S5.next+1) (qcv 3 none (.ptr S.next 0) (.ptr S1.next 0))):=qd8 _ _;have n8:(S7.put (S5.next+1) (qcv 3 none (.ptr S.next 0) (.ptr S1.next 0))).next=S7.next:=rfl
 have hend:∀(kn kr:St->Rs) (ke:Nat->St->Rs),endLP (S5.next+1) S7 kn kr ke=kn (S7.put (S5.next+1) (qcv 3 none (.ptr S.next 0) (.ptr S1.next 0))):=fun kn kr ke=>endLP_norm (kn:=kn) (kr:=kr) (ke:=ke) p2.h.1 p2.rcd (by decide);generalize S7.put (S5.next+1) (qcv 3 none (.ptr S.next 0) (.ptr S1.next 0))=S8 at g8 n8 hend;have h8:Arr S8 S.next 88 8 _:=p2.h.grew (by omega) (by omega) g8
 have on8:=h8.1;obtain⟨w,q1,_,q3⟩:=h8.all qf1;obtain⟨v9,S9,r1,r2,r4⟩:=L17_spec (N:=S8.next) (m:=m+7) (Nn:=qa1) q3 (R36_11 (ev E0 KH (m+7)) qa1 (fun a s=>qa7 [2] a fun a=>qat E0 (ev E0 KH (m+7)) Tryz.f36 a s) qad) (exB 2 (R36_11 (ev E0 KH (m+7)) qa1 (fun a s=>qa7 [2] a fun a=>qat E0 (ev E0 KH (m+7)) Tryz.f36 a s) qad) qad) (mkR S5.next::[]) 8 0 qa1 .nilslice [] S8 rfl (by unfold qa1; omega) on8 (.inl ⟨rfl,rfl⟩) rfl (lR _);have n9:=r4.next
 have on9:=r4.on.trans on8;rw[List.nil_append,show qf2 _ 8 0=sumB s from rfl]at r2;have hout:sumB s≠[]:=fun e=>by have:=qjt s; rw[e]at this; cases this
 have hdef:S9.heap.get S5.next=some .defb:=by
  rw[r4.keep S5.next (by omega) (by omega),g8.keep S5.next (by omega) (by omega),p3.keep S5.next (by omega) (fun e=>by rcases e with e|e<;>omega)];exact hd6
 obtain⟨U,z1,z2,z3⟩:=qkv (E:=E0) (self:=ev E0 KH (m+7)) (fn:=Tryz.f36) (a:=frD 40 [(2,sv (sumB s)),(6,v9),(38,v9),(39,sv (sumB s))] [mkR S5.next]) (m:=.ret) [S5.next] on9 (List.pairwise_singleton _ _) (fun b hb=>by rw[List.mem_singleton.1 hb]; exact hdef);refine⟨U,rs27 ?_,?_⟩
 . show F36 (ev E0 KH (m+7)) qa1 (sv s) S=_
   rw[F36_eq,show(ev E0 KH (m+7)).f 72 [] S=_ from c1,callPF_ret,ex0,oB,ex1,oB,ea,oB];dsimp only;rw[show(Tr.ofListFrom .nil z64q 0:Tr V)=Tr.ofListFrom .nil (List.replicate 64 (.int .u32 0)) 0 from rfl,eb,oB];dsimp only;rw[d1,oB];dsimp only;rw[e1,oB];dsimp only;rw[f1,callPF_ret,hrange];show onEn ((ev E0 KH (m+7)).f 99 [.yield (S5.next+1),.ptr S4.next 0] S6) _ _=_;rw[show(ev E0 KH (m+7)).f 99 [.yield (S5.next+1),.ptr S4.next 0] S6=_ from p1];show endLP (S5.next+1) S7 _ _ _=_
   rw[hend,R36_9_eq,q1,oB];dsimp only;rw[show V.int .i64 0=.int .i64 ((0:Nat):Int)from rfl];refine r1.trans ?_;rw[exB_same,R36_11_eq,conv_out on9 r2 hout,oB];dsimp only;rw[finR_defer (d:=mkR S5.next) (ds:=[]) rfl];rw[show [mkR S5.next]=List.map mkR [S5.next]from rfl];exact z1.trans (lv27 _ _ _ _ _ _)
 . have nU:=z2.next
   refine⟨by omega,by rw[z2.on,on9,ho],fun b hb hw=>?_⟩;rw[z2.keep b (by omega) (fun e=>by have:=List.mem_singleton.1 e; omega),r4.keep b (by omega) (by omega),g8.keep b (by omega) (by omega),p3.keep b (by omega) (fun e=>by rcases e with e|e<;>omega),g6.keep b (by omega) (fun h=>h),f3.keep b (by omega) (fun h=>h),e3.keep b (by omega) (by omega),d3.keep b (by omega) (by omega),b2.keep b (by omega) (fun h=>h),a2.keep b hb (fun h=>h)]
end
end Go.Proofs.YtpgegoeghaplkaaGreatDoor.W
namespace Go.Proofs.YtpgegoeghaplkaaGreatDoor.W
open Go.Proofs.YtpgegoeghaplkaaGreatDoor.Ev
set_option maxRecDepth 100000
noncomputable section
def C8:Code:=Tryz.f8.body.getD .skip
def B8:D:=(qak C8 [[],[],[],[],[],[]]).1
def F8 (self:EV) (N:Nat) (x0:V) (S:St):Rs:=qaq E0 self N Tryz.f8 B8 [x0] S
theorem F8_eq (self:EV) (N:Nat) (x0:V) (S:St):F8 self N x0 S =
(qjy 25 x0 S).bind fun p0=>
(ldA 4 p0.1 p0.2).bind fun p3=>
qaf (self.f 6 [p3.1] p3.2) fun t4 S4=>
(qab t4 0).bind fun t6=>
(qab t4 1).bind fun t7=>
(qa4 E0 .neq 27 false true t7 (.int .i64 0)).bind fun t11=>
ifK t11 (
some (.ret (.tuple [(sv []),t7]),S4)) (
(qa4 E0 .add 9 true false (sv [100,114,118,58]) t6).bind fun t16=>
qcy (qaj E0 (B8.r.r.r.l).ops) S4 2 [[],[]] (self.f 14 [t16] (onS S4)) fun t17 S17=>
(faP 0 false 1 p0.1).bind fun t18=>
(ld1 t18 (onS S17)).bind fun p19=>
qcy (qaj E0 (B8.r.r.r.l).ops) S4 5 [[],[],S17.log,[],p19.2.log] (self.f 23 [t17,p19.1] (onS p19.2)) fun t20 S20=>
(qab t20 0).bind fun t21=>
(qab t20 1).bind fun t22=>
qgb [(2,[4])] S4 [[],[],S17.log,[],p19.2.log,S20.log,[],[],[],[]] (onS S20) fun S25=>
some (.ret (.tuple [t21,t22]),S25)):=by kernel_rfl
def C23:Code:=Tryz.f23.body.getD .skip
def B23:D:=(qak C23 [[],[],[],[],[],[],[],[],[]]).1
def F23 (self:EV) (N:Nat) (x0 x1:V) (S:St):Rs:=qaq E0 self N Tryz.f23 B23 [x0,x1] S
theorem F23_eq (self:EV) (N:Nat) (x0 x1:V) (S:St):F23 self N x0 x1 S =
qaf (self.f 34 [x0] S) fun t3 S3=>
(unV .not t3).bind fun t4=>
ifK t4 (
some (.ret (.tuple [(sv []),(.int .i64 2)]),S3)) (
qaf (self.f 35 [x1] S3) fun t8 S8=>
(qa4 E0 .neq 27 false true t8 (.int .i64 0)).bind fun t11=>
ifK t11 (
some (.ret (.tuple [(sv []),t8]),S8)) (
(qa4 E0 .add 9 false true x0 (sv [45])).bind fun t16=>
(qa4 E0 .add 9 false false t16 x1).bind fun t18=>
some (.ret (.tuple [t18,(.int .i64 0)]),S8))):=by kernel_rfl
def C14:Code:=Tryz.f14.body.getD .skip
def B14:D:=(qak C14 [[],[],[],[],[],[3,4,5,6,12,13],[],[4],[],[],[],[],[3,4,5,6,12,13],[],[3,4,5,6,12,13],[],[],[0,3,4,5,6,12,13],[3,4,5,6,12,13],[0,3,4,5,6,12,13],[3,4,5,6,12,13],[0,4],[2],[]]).1
def RL14:List Nat:=cellsOf Tryz.f14.results.toList
def R14_7 (self:EV) (N:Nat) (nk:Ac->St->Rs) (ek:Nat->Ac->St->Rs) (a:Ac) (S:St):Rs:=qa7 [4] a fun a=>dr E0 self RL14 N (B14.r.r.r.r).r (mkK E0 self Tryz.f14 nk ek) a S
theorem R14_7_eq (self:EV) (N:Nat) (nk:Ac->St->Rs) (ek:Nat->Ac->St->Rs) ( v4:V) (S:St):R14_7 self N nk ek (fr 42 [(4,v4)]) S =
qaf (self.f 20 [v4] S) fun t8 S8=>
some (.ret t8,S8):=by kernel_rfl
def qgj (self:EV) (N:Nat) (nk:Ac->St->Rs) (ek:Nat->Ac->St->Rs) (n:Nat):Ac->St->Rs:=fun a S=>qa7 [3,4,5,6,12,13] a fun a=>qb8 [3,4,5,6,12,13] (dr E0 self RL14 N (B14.r.r.r.r.l.r.l.l)) (mkK E0 self Tryz.f14 nk ek) n a S
def L14_14 (self:EV) (N:Nat) (nk:Ac->St->Rs) (ek:Nat->Ac->St->Rs) (n:Nat) ( v3 v4 v5 v6 v12 v13:V) (S:St):Rs:=qb8 [3,4,5,6,12,13] (dr E0 self RL14 N (B14.r.r.r.r.l.r.l.l)) (mkK E0 self Tryz.f14 nk ek) n (fr 42 [(3,v3),(4,v4),(5,v5),(6,v6),(12,v12),(13,v13)]) S
def qgk (self:EV) (N:Nat) (nk:Ac->St->Rs) (ek:Nat->Ac->St->Rs) (a:Ac) (S:St):Rs:=qa7 [3,4,5,6,12,13] a fun a=>dr E0 self RL14 N (B14.r.r.r.r.l.r.l.l.r.r).r (mkK E0 self Tryz.f14 nk ek) a S
theorem R14_16_eq (self:EV) (N:Nat) (nk:Ac->St->Rs) (ek:Nat->Ac->St->Rs) ( v3 v4 v5 v6 v12 v13:V) (S:St):qgk self N nk ek (fr 42 [(3,v3),(4,v4),(5,v5),(6,v6),(12,v12),(13,v13)]) S =
(qa4 E0 .add 3 false true v13 (.int .i64 1)).bind fun t17=>
nk (fr 42 [(3,v3),(4,v4),(5,v5),(6,v6),(12,v12),(13,t17)]) S:=by kernel_rfl
def R14_29 (self:EV) (N:Nat) (nk:Ac->St->Rs) (ek:Nat->Ac->St->Rs) (a:Ac) (S:St):Rs:=qa7 [3,4,5,6,12,13] a fun a=>dr E0 self RL14 N (B14.r.r.r.r.l.r.l.l.r.r.l.l.r.r).r (mkK E0 self Tryz.f14 nk ek) a S
theorem R14_29_eq (self:EV) (N:Nat) (nk:Ac->St->Rs) (ek:Nat->Ac->St->Rs) ( v3 v4 v5 v6 v12 v13:V) (S:St):R14_29 self N nk ek (fr 42 [(3,v3),(4,v4),(5,v5),(6,v6),(12,v12),(13,v13)]) S =
(qa4 E0 .shl 68 true false (.int .u64 1) v6).bind fun t32=>
(qa4 E0 .sub 68 false true t32 (.int .u64 1)).bind fun t33=>
(qa4 E0 .and 68 false false v5 t33).bind fun t34=>
nk (fr 42 [(3,v3),(4,v4),(5,t34),(6,v6),(12,v12),(13,v13)]) S:=by kernel_rfl
def L14_39 (self:EV) (N:Nat) (nk:Ac->St->Rs) (ek:Nat->Ac->St->Rs) (n:Nat) ( v3 v4 v5 v6 v12 v13:V) (S:St):Rs:=qb8 [3,4,5,6,12,13] (dr E0 self RL14 N (B14.r.r.r.r.l.r.l.l.r.r.l.l.r.r.l.r.l.l)) (mkK E0 self Tryz.f14 nk ek) n (fr 42 [(3,v3),(4,v4),(5,v5),(6,v6),(12,v12),(13,v13)]) S
theorem L14_39_eq (self:EV) (N:Nat) (nk:Ac->St->Rs) (ek:Nat->Ac->St->Rs) (n:Nat) ( v3 v4 v5 v6 v12 v13:V) (S:St):L14_39 self N nk ek (n+1) v3 v4 v5 v6 v12 v13 S =
(qa4 E0 .geq 3 false true v6 (.int .i64 5)).bind fun t41=>
ifK t41 (
(qa4 E0 .sub 3 false true v6 (.int .i64 5)).bind fun t43=>
(qa4 E0 .shr 68 false false v5 t43).bind fun t47=>
(qa4 E0 .and 68 false true t47 (.int .u64 31)).bind fun t48=>
(ixS (sv [48,49,50,51,52,53,54,55,56,57,97,98,99,100,102,103,104,105,106,107,108,109,110,112,113,114,115,118,119,120,121,122]) t48).bind fun t49=>
qaf (self.f 37 [v4,t49] S) fun t50 S50=>
L14_39 self N nk ek n v3 v4 v5 t43 v12 v13 S50) (
ek 2 (fr 42 [(3,v3),(4,v4),(5,v5),(6,v6),(12,v12),(13,v13)]) S):=by kernel_rfl
theorem L14_14_eq (self:EV) (N:Nat) (nk:Ac->St->Rs) (ek:Nat->Ac->St->Rs) (n:Nat) ( v3 v4 v5 v6 v12 v13:V) (S:St):L14_14 self N nk ek (n+1) v3 v4 v5 v6 v12 v13 S =
(qa4 E0 .lss 3 false false v13 v12).bind fun t15=>
ifK t15 (
(qa4 E0 .shl 68 false true v5 (.int .u64 8)).bind fun t22=>
(ixS v3 v13).bind fun t25=>
(cvI .u64 t25 S).bind fun p26=>
(qa4 E0 .or 68 false false t22 p26.1).bind fun t27=>
(qa4 E0 .add 3 false true v6 (.int .i64 8)).bind fun t37=>
L14_39 self N (R14_29 self N (qgk self N (qgj self N nk ek n) ek) (exB 1 (qgk self N (qgj self N nk ek n) ek) ek)) (exB 2 (R14_29 self N (qgk self N (qgj self N nk ek n) ek) (exB 1 (qgk self N (qgj self N nk ek n) ek) ek)) (exB 1 (qgk self N (qgj self N nk ek n) ek) ek)) N v3 v4 t27 t37 v12 v13 p26.2) (
ek 0 (fr 42 [(4,v4)]) S):=by kernel_rfl
theorem N14_14_eq (self:EV) (N:Nat) (nk:Ac->St->Rs) (ek:Nat->Ac->St->Rs) (n:Nat) ( v3 v4 v5 v6 v12 v13:V) (S:St):qgj self N nk ek n (fr 42 [(3,v3),(4,v4),(5,v5),(6,v6),(12,v12),(13,v13)]) S=L14_14 self N nk ek n v3 v4 v5 v6 v12 v13 S:=by kernel_rfl
def F14 (self:EV) (N:Nat) (x0:V) (S:St):Rs:=qaq E0 self N Tryz.f14 B14 [x0] S
theorem F14_eq (self:EV) (N:Nat) (x0:V) (S:St):F14 self N x0 S =
qaf (self.f 36 [x0] S) fun t2 S2=>
(some (nwP 45 2 (Tr.ofListFrom .nil [.nilptr,.nilslice] 0) S2)).bind fun p4=>
(qbr t2 p4.2).bind fun p11=>
(qj1 minV p11.1 [(.int .i64 20)] p11.2).bind fun p12=>
L14_14 self N (R14_7 self N (qat E0 self Tryz.f14) qad) (exB 0 (R14_7 self N (qat E0 self Tryz.f14) qad) qad) N t2 p4.1 (.int .u64 0) (.int .i64 0) p12.1 (.int .i64 0) p12.2:=by kernel_rfl
end
end Go.Proofs.YtpgegoeghaplkaaGreatDoor.W
end
