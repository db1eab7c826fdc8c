/-
  WHAT THE FUNCTIONS COME TO: each is read by the evaluator,printed,and told as a function of data,part 8 of 12 (no condition).
-/
import Derived.Test.YtachpdpmoihjmaaW7
namespace Go.Proofs.Ytachpdpmoihjmaa.W
open Go.Proofs.Ytachpdpmoihjmaa.Ev
def litV (x0:V) (c:UInt8):V:=if c=46 then .tuple [.fn (.func 24) [x0] [],.bool true]else if c=91 then .tuple [.fn (.func 25) [x0] [],.bool true]else if c=92 then .tuple [.fn (.func 26) [x0] [],.bool true]else .tuple [.nilfn,.bool false]
section
variable {S:St}
theorem upd_lit (ho:S.on=false) {r k clock:Nat} {es:List ME} {v:V} (h:S.heap.get r=some (.map es clock)) (hf:qik (.int .u8 (k:Int)) es 0=some none):qcp E0 67 (.map r) (.int .u8 (k:Int)) v S=some (S.put r (.map (es++[{k:=.int .u8 (k:Int),v:=v,born:=clock}]) (clock+1))):=by
 have hu:und E0 67=some (.map 5 31):=by kernel_rfl
 have h5:und E0 5=some (.int .u8):=by kernel_rfl
 unfold qcp;rw[hu,oB];simp only;rw[h5,oB];simp only[qii,cT];rw[getO_off ho h,oB];simp only;rw[hf,oB];simp only;rw[setO_off ho]
theorem lit_run (ho:S.on=false) (c:UInt8) (x0:V) :
 ∃T,Grew (fun _=>False) S T/\∀(k:V×St->Rs),((qkg E0 67 none S).bind fun p79=>
(vu (qcp E0 67 p79.1 (.int .u8 46) (.fn (.func 24) [x0] []) p79.2)).bind fun p82=>
(vu (qcp E0 67 p79.1 (.int .u8 91) (.fn (.func 25) [x0] []) p82.2)).bind fun p85=>
(vu (qcp E0 67 p79.1 (.int .u8 92) (.fn (.func 26) [x0] []) p85.2)).bind fun p88=>
(qeq E0 67 p79.1 (.int .u8 (c.toNat:Int)) true p88.2).bind k)=k (litV x0 c,T):=by
 have g1:=qd3 ho (fun _=>False) (.map [] 0);have h1:(nw S (.map [] 0)).heap.get S.next=some (.map [] 0):=by rw[qin,iP rfl]
 have on1:(nw S (.map [] 0)).on=false:=qfs ho _;have e1:=upd_lit (k:=46) (v:=.fn (.func 24) [x0] []) on1 h1 rfl;have h2:((nw S (.map [] 0)).put S.next (.map ([]++[{k:=.int .u8 ((46:Nat):Int),v:=.fn (.func 24) [x0] [],born:=0}]) (0+1))).heap.get S.next=some (.map ([]++[{k:=.int .u8 ((46:Nat):Int),v:=.fn (.func 24) [x0] [],born:=0}]) (0+1)):=by rw[qe9,iP rfl]
 have g2:=qbz (s:=nw S (.map [] 0)) S.next (.map ([]++[{k:=.int .u8 ((46:Nat):Int),v:=.fn (.func 24) [x0] [],born:=0}]) (0+1))
 have on2:=g2.on.trans on1;generalize (nw S (.map [] 0)).put S.next (.map ([]++[{k:=.int .u8 ((46:Nat):Int),v:=.fn (.func 24) [x0] [],born:=0}]) (0+1))=S2 at e1 h2 g2 on2
 have e2:=upd_lit (k:=91) (v:=.fn (.func 25) [x0] []) on2 h2 rfl;have h3:(S2.put S.next (.map (([]++[{k:=.int .u8 ((46:Nat):Int),v:=.fn (.func 24) [x0] [],born:=0}])++[{k:=.int .u8 ((91:Nat):Int),v:=.fn (.func 25) [x0] [],born:=0+1}]) (0+1+1))).heap.get S.next=some (.map (([]++[{k:=.int .u8 ((46:Nat):Int),v:=.fn (.func 24) [x0] [],born:=0}])++[{k:=.int .u8 ((91:Nat):Int),v:=.fn (.func 25) [x0] [],born:=0+1}]) (0+1+1)):=by rw[qe9,iP rfl]
 have g3:=qbz (s:=S2) S.next (.map (([]++[{k:=.int .u8 ((46:Nat):Int),v:=.fn (.func 24) [x0] [],born:=0}])++[{k:=.int .u8 ((91:Nat):Int),v:=.fn (.func 25) [x0] [],born:=0+1}]) (0+1+1))
 have on3:=g3.on.trans on2;generalize S2.put S.next (.map (([]++[{k:=.int .u8 ((46:Nat):Int),v:=.fn (.func 24) [x0] [],born:=0}])++[{k:=.int .u8 ((91:Nat):Int),v:=.fn (.func 25) [x0] [],born:=0+1}]) (0+1+1))=S3 at e2 h3 g3 on3
 have e3:=upd_lit (k:=92) (v:=.fn (.func 26) [x0] []) on3 h3 rfl;have h4:(S3.put S.next (.map ((([]++[{k:=.int .u8 ((46:Nat):Int),v:=.fn (.func 24) [x0] [],born:=0}])++[{k:=.int .u8 ((91:Nat):Int),v:=.fn (.func 25) [x0] [],born:=0+1}])++[{k:=.int .u8 ((92:Nat):Int),v:=.fn (.func 26) [x0] [],born:=0+1+1}]) (0+1+1+1))).heap.get S.next=some (.map ((([]++[{k:=.int .u8 ((46:Nat):Int),v:=.fn (.func 24) [x0] [],born:=0}])++[{k:=.int .u8 ((91:Nat):Int),v:=.fn (.func 25) [x0] [],born:=0+1}])++[{k:=.int .u8 ((92:Nat):Int),v:=.fn (.func 26) [x0] [],born:=0+1+1}]) (0+1+1+1)):=by rw[qe9,iP rfl]
 have g4:=qbz (s:=S3) S.next (.map ((([]++[{k:=.int .u8 ((46:Nat):Int),v:=.fn (.func 24) [x0] [],born:=0}])++[{k:=.int .u8 ((91:Nat):Int),v:=.fn (.func 25) [x0] [],born:=0+1}])++[{k:=.int .u8 ((92:Nat):Int),v:=.fn (.func 26) [x0] [],born:=0+1+1}]) (0+1+1+1))
 have on4:=g4.on.trans on3;generalize S3.put S.next (.map ((([]++[{k:=.int .u8 ((46:Nat):Int),v:=.fn (.func 24) [x0] [],born:=0}])++[{k:=.int .u8 ((91:Nat):Int),v:=.fn (.func 25) [x0] [],born:=0+1}])++[{k:=.int .u8 ((92:Nat):Int),v:=.fn (.func 26) [x0] [],born:=0+1+1}]) (0+1+1+1))=S4 at e3 h4 g4 on4
 refine⟨S4,((g1.own (lR _) g2).own (lR _) g3).own (lR _) g4,fun k=>?_⟩
 have look:qeq E0 67 (.map S.next) (.int .u8 (c.toNat:Int)) true S4=some (litV x0 c,S4):=by
  have hu:und E0 67=some (.map 5 31):=by kernel_rfl
  have hz:qet E0 31=some .nilfn:=by kernel_rfl
  have h5:und E0 5=some (.int .u8):=by kernel_rfl
  unfold qeq;rw[hu,oB];simp only;rw[h5,oB];simp only[qii,cT];rw[getO_off on4 h4,oB];simp only;rw[oB]
  have hm:qik (.int .u8 (c.toNat:Int)) ((([]++[{k:=.int .u8 ((46:Nat):Int),v:=.fn (.func 24) [x0] [],born:=0}])++[{k:=.int .u8 ((91:Nat):Int),v:=.fn (.func 25) [x0] [],born:=0+1}])++[{k:=.int .u8 ((92:Nat):Int),v:=.fn (.func 26) [x0] [],born:=0+1+1}]) 0=some (if c=46 then some (0,.fn (.func 24) [x0] [])else if c=91 then some (1,.fn (.func 25) [x0] [])else if c=92 then some (2,.fn (.func 26) [x0] [])else none):=by
   by_cases h46:c=46
   . subst h46
     rw[iP rfl];rfl
   have q1:iEq (c.toNat:Int) ((46:Nat):Int)=false:=by rw[qe4]; exact beq_false_of_ne fun e=>h46 (UInt8.toNat_inj.1 (by have h0:(46:UInt8).toNat=46:=rfl; omega:c.toNat=(46:UInt8).toNat))
   rw[iN h46];by_cases h91:c=91
   . subst h91
     rw[iP rfl];rfl
   have q2:iEq (c.toNat:Int) ((91:Nat):Int)=false:=by rw[qe4]; exact beq_false_of_ne fun e=>h91 (UInt8.toNat_inj.1 (by have h0:(91:UInt8).toNat=91:=rfl; omega:c.toNat=(91:UInt8).toNat))
   rw[iN h91];simp only[List.nil_append,List.cons_append,qik,qbq,cT,q1,q2,cF];by_cases h92:c=92
   . subst h92
     rw[iP rfl];rfl
   . have q3:iEq (c.toNat:Int) ((92:Nat):Int)=false:=by rw[qe4]; exact beq_false_of_ne fun e=>h92 (UInt8.toNat_inj.1 (by have h0:(92:UInt8).toNat=92:=rfl; omega:c.toNat=(92:UInt8).toNat))
     rw[q3,iN h92];rfl
  rw[hm,oB];unfold litV;by_cases h46:c=46
  . rw[iP h46,iP h46]
    all_goals rfl
  rw[iN h46,iN h46];by_cases h91:c=91
  . rw[iP h91,iP h91]
    all_goals rfl
  rw[iN h91,iN h91];by_cases h92:c=92
  . rw[iP h92,iP h92]
    all_goals rfl
  . rw[iN h92,iN h92]
    simp only;rw[hz]; rfl
 show((some (V.map S.next,nw S (.map [] 0))).bind _)=_;rw[oB];dsimp only;rw[show(V.int .u8 46)=.int .u8 ((46:Nat):Int)from rfl,e1];show((some (V.tuple [],S2)).bind _)=_;rw[oB];dsimp only;rw[show(V.int .u8 91)=.int .u8 ((91:Nat):Int)from rfl,e2];show((some (V.tuple [],S3)).bind _)=_;rw[oB];dsimp only;rw[show(V.int .u8 92)=.int .u8 ((92:Nat):Int)from rfl,e3];show((some (V.tuple [],S4)).bind _)=_;rw[oB];dsimp only;rw[look,oB]
end
theorem qk8 {E:Env} {self:EV} {f:FuncId} (h:E.ext.get f=none) (hb:qco E f=true) (x y args:List V) (S:St):qla E self (.fn (.func f) x y) args S=self.f f (x++args++y) S:=by
 show(match E.ext.get f with|some k=>_|none=>_)=_;rw[h];show(bif qco E f then self.f f (x++args++y) S else none)=_;rw[hb]; rfl
theorem body2x:(E0.ext.get 24=none/\qco E0 24=true)/\(E0.ext.get 25=none/\qco E0 25=true)/\(E0.ext.get 26=none/\qco E0 26=true):=⟨⟨by kernel_rfl,by kernel_rfl⟩,⟨by kernel_rfl,by kernel_rfl⟩,⟨by kernel_rfl,by kernel_rfl⟩⟩
def encP (r:Bool×Bool):V:=.tuple [.bool r.1,.bool r.2]
section
variable {S:St} {b N0 d:Nat} {s:List UInt8}
theorem qlm (x y:V):qaj (.tuple [x,y]) 0=some x:=rfl
theorem qln (x y:V):qaj (.tuple [x,y]) 1=some y:=rfl
theorem at_on {gr dp i:Nat} {f:Bool} {lv:V} {acc:List (Tr V)} {K:FuncId->Option KF} (hK:∀f,f≠9->K f=none) (m:Nat) (h:Rdr gr dp S b N0 s i f lv acc) (hi:i<=s.length) (t:List UInt8) :
 ∃L,(ev E0 K (m+3)).f 16 [.ptr b 0,sv t] (onS S)=some (.ret (.bool (qae (s.drop i) t)),S.lg L)/\(L.all fun e=>!e.w)=true:=by
 have key:∃L,F16 (ev E0 K (m+2)) qa3 (.ptr b 0) (sv t) (onS S)=some (.ret (.bool (qae (s.drop i) t)),S.lg L)/\(L.all fun e=>!e.w)=true:=by
  rw[F16_eq];simp only[qg8,qcn,Nat.zero_add,oB,qb7];rw[h.o2,oB];dsimp only;rw[qb8,h.o3,oB];dsimp only;rw[qb8,qfj und9 s (qi5 .i64 hi) (lR _),oB];dsimp only;rw[show List.take (s.length-i) (s.drop i)=s.drop i from List.take_of_length_le (by rw[List.length_drop]; exact lR _),qb7,pre_run (hK 23 (by decide)) (hK 30 (by decide)) m,qbh,qbp (by rfl),qb7];exact⟨_,rfl,rfl⟩
 obtain⟨L,h1,h2⟩:=key;exact⟨L,qax (c:=C16) (d:=B16) (by kernel_rfl) (by kernel_rfl) (qa7 C16 _ (by kernel_rfl)) (hK 16 (by decide)) h1,h2⟩
theorem piece_says {K:FuncId->Option KF} (hK:∀f,f≠9->K f=none) (m:Nat) {grp:PS->Option (PS×Bool)} {st:PS} (hg:GR K (m+2) b N0 s d st.g st.i grp) (hs:s.length<=300) (hd:d<=1000) (hg9:st.g<=9) (h:Rd S b N0 s d st) (hi:st.i<s.length) (ha:st.acc.length<=2*st.i) :
 Says encP ((ev E0 K (m+6)).f 17 [.ptr b 0] S) S b N0 s d (pce s grp d st):=by
 obtain⟨lv,ts,h0,hR⟩:=h;have hlen:=hR.len;have ho:=h0.on;have rdF:∀{r},F17 (ev E0 K (m+5)) qa3 (.ptr b 0) S=some r->(ev E0 K (m+6)).f 17 [.ptr b 0] S=some r:=fun e=>qax (c:=C17) (d:=B17) (by kernel_rfl) (by kernel_rfl) (qa7 C17 _ (by kernel_rfl)) (hK 17 (by decide)) e;have hgd:s.getD st.i 0=s[st.i]:=by rw[List.getD_eq_getElem?_getD,List.getElem?_eq_getElem hi]; rfl
 have hF:=F17_eq (ev E0 K (m+5)) qa3 (.ptr b 0) S;simp only[qg8,qcn,Nat.zero_add,oB]at hF;rw[h0.o2,oB]at hF;dsimp only at hF;rw[qb8,h0.o3,oB]at hF;dsimp only at hF;rw[qh8 s .i64 st.i hi,oB,qb8,h0.o5,oB]at hF;dsimp only at hF;rw[qbp (by rfl),qb8,qam ho,h0.l3,oB]at hF;dsimp only at hF;obtain⟨S1,a1,a2,a3⟩:=h0.putI (st.i+1);rw[binV_ii,intsV_add,qa5 (by omega),oB,a1,oB]at hF;dsimp only at hF;obtain⟨S2,b1,b2,b3⟩:=a2.putF false;rw[b1,oB]at hF;dsimp only at hF;rw[binV_ii,intsV_eql,qg0 _ 94 94 rfl,oB,qaa,oB]at hF;have g2:Grew (fun x=>N0<=x) S S2:=a3.trans b3;have on2:=b2.on;unfold pce;rw[hgd];generalize hc:s[st.i]=c at hF ⊢;have at_:=fun(t:List UInt8)=>at_run (hK 16 (by decide)) (hK 23 (by decide)) (hK 30 (by decide)) (m+2) b2 hi t;by_cases h94:c=94/\st.fi=true
 . -- a beginning
   rw[iP h94];rw[h94.1,beq_self_eq_true,cT,oB,pickV_bool,cT,oB,h94.2,ifK_bool,cT,build_1,oB]at hF;obtain⟨S3,lv3,c1,c2,c3⟩:=qen (hK 13 (by decide)) (m+4) b2 (by omega) (TK 1);rw[show ev E0 K (m+5)=ev E0 K (m+4+1)from rfl,c1,callP_ret,show ev E0 K (m+4+1)=ev E0 K (m+2+3)from rfl,at_run (hK 16 (by decide)) (hK 23 (by decide)) (hK 30 (by decide)) (m+2) c2 hi [42],callP_ret]at hF;obtain⟨S4,d1,d2,d3⟩:=c2.putF (qae (s.drop (st.i+1)) [42]);rw[d1,oB]at hF;exact⟨S4,rdF hF,⟨lv3,_,d2,hR.add stp_1⟩,(g2.trans c3).trans d3⟩
 rw[iN h94]
 have e94:∀(k:V->Rs),((bif c==94 then some (V.bool st.fi)else some (.tuple [])).bind fun t33=>(qah (.bool (c==94)) (some t33) (some (.bool false))).bind k)=k (.bool false):=fun k=>by
  cases hq:(c==94)with
  | false=>rfl
  | true=>
   cases hf:st.fi with
   | false=>rfl
   | true=>exact absurd ⟨eq_of_beq hq,hf⟩ h94
 rw[e94,ifK_bool,cF,binV_ii,intsV_eql,qg0 _ 36 36 rfl,oB]at hF
 have endq:F17 (ev E0 K (m+5)) qa3 (.ptr b 0) S=((qau E0 50 [(1,.int .i64 2)]).bind fun t75=>
qad ((ev E0 K (m+5)).f 13 [.ptr b 0,t75] S2) fun t76 S76=>
some (.ret (.tuple [(.bool true),(.bool false)]),S76))->Says encP ((ev E0 K (m+6)).f 17 [.ptr b 0] S) S b N0 s d (some (⟨st.i+1,st.g,false,st.acc++[stA 2 0]⟩,true,false)):=fun e=>by
  obtain⟨S3,lv3,c1,c2,c3⟩:=qen (hK 13 (by decide)) (m+4) b2 (by omega) (TK 2);rw[build_2,oB,show ev E0 K (m+5)=ev E0 K (m+4+1)from rfl,c1,callP_ret]at e;exact⟨S3,rdF e,⟨lv3,_,c2,hR.add stp_2⟩,g2.trans c3⟩
 obtain⟨S3,g3,hlit⟩:=lit_run on2 c (.ptr b 0);have b3':Rdr st.g d S3 b N0 s (st.i+1) false lv ts:=b2.grew (fun _ _ _ h=>h) g3;have gg:Grew (fun x=>N0<=x) S S3:=g2.trans (g3.mono fun _ _ h=>h.elim)
 have noneq:F17 (ev E0 K (m+5)) qa3 (.ptr b 0) S=((qaj (litV (.ptr b 0) c) 0).bind fun t93=>
(qaj (litV (.ptr b 0) c) 1).bind fun t94=>
ifK t94 (
qad (qla E0 (ev E0 K (m+5)) t93 [] S3) fun t99 S99=>
some (.ret (.tuple [t99,(.bool true)]),S99)) (
(qa4 E0 .neq 5 false true (.int .u8 (c.toNat:Int)) (.int .u8 42)).bind fun t103=>
(qa1 false t103).bind fun g105=>(bif g105 then some (.bool st.fi)else some (.tuple [])).bind fun t105=>
(qah t103 (some (.bool true)) (some t105)).bind fun t106=>
qad ((ev E0 K (m+5)).f 18 [t106] S3) fun t107 S107=>
qad ((ev E0 K (m+5)).f 27 [.ptr b 0,.int .u8 (c.toNat:Int)] S107) fun t110 S110=>
some (.ret (.tuple [t110,(.bool true)]),S110)))->Says encP ((ev E0 K (m+6)).f 17 [.ptr b 0] S) S b N0 s d (if c=46 then some (⟨st.i+1,st.g,false,st.acc++[tkA fun _=>true]⟩,false,true)
 else if c=91 then(sqr s (st.i+1)).map fun r=>(⟨r.1,st.g,false,st.acc++[tkA r.2]⟩,false,true)
 else if c=92 then(strk s grp ⟨st.i+1,st.g,false,st.acc⟩).map fun r=>(r.1,r.2,true)
 else if c=42/\st.fi=false then none
 else some (⟨st.i+1,st.g,false,st.acc++[tkA fun x=>x==c]⟩,false,true)):=fun e=>by
  unfold litV at e;by_cases h46:c=46
  . rw[iP h46]at e ⊢
    rw[qlm,qln,oB,oB,ifK_bool,cT,qk8 body2x.1.1 body2x.1.2]at e;obtain⟨T,lv',tr,t1,t2,t3,t4⟩:=point_run (hK 13 (by decide)) (hK 24 (by decide)) (m+3) b3' (by omega)
    replace e:_=qad ((ev E0 K (m+3+2)).f 24 [.ptr b 0] S3) _:=e
    rw[t1,callP_ret]at e;exact⟨T,rdF e,⟨lv',_,t3,hR.add t2⟩,gg.trans t4⟩
  rw[iN h46]at e ⊢;by_cases h91:c=91
  . rw[iP h91]at e ⊢
    rw[qlm,qln,oB,oB,ifK_bool,cT,qk8 body2x.2.1.1 body2x.2.1.2]at e
    replace e:_=qad ((ev E0 K (m+1+4)).f 25 [.ptr b 0] S3) _:=e
    have hq:=square_run hK (m+1) b3' (by omega) hi hs;cases hr:sqr s (st.i+1)with
    | none=>
     rw[hr]at hq;obtain⟨T,t1,t2⟩:=hq;rw[t1,callP_pan]at e;exact⟨T,rdF e,gg.trans t2⟩
    | some r=>
     rw[hr]at hq;obtain⟨T,lv',tr,t1,t2,t3,t4⟩:=hq;rw[t1,callP_ret]at e;exact⟨T,rdF e,⟨lv',_,t3,hR.add t2⟩,gg.trans t4⟩
  rw[iN h91]at e ⊢;by_cases h92:c=92
  . rw[iP h92]at e ⊢
    rw[qlm,qln,oB,oB,ifK_bool,cT,qk8 body2x.2.2.1 body2x.2.2.2]at e
    replace e:_=qad ((ev E0 K (m+5)).f 26 [.ptr b 0] S3) _:=e
    have hq:=stroke_says hK m (st:=⟨st.i+1,st.g,false,st.acc⟩) hg (Nat.le_succ _) hs hd hg9 ⟨lv,ts,b3',hR⟩ hi (by simp only; omega);cases hr:strk s grp ⟨st.i+1,st.g,false,st.acc⟩with
    | none=>
     rw[hr]at hq;obtain⟨T,t1,t2⟩:=hq;rw[t1,callP_pan]at e;exact⟨T,rdF e,gg.trans t2⟩
    | some r=>
     rw[hr]at hq;obtain⟨T,t1,t2,t3⟩:=hq;rw[t1,callP_ret]at e;exact⟨T,rdF e,t2,gg.trans t3⟩
  rw[iN h92]at e ⊢;rw[qlm,qln,oB,oB,ifK_bool,cF,binV_ii,intsV_neq,qg0 _ 42 42 rfl,oB]at e
  have e42:∀(k:V->Rs),((qa1 false (.bool (!(c==42)))).bind fun g105=>(bif g105 then some (V.bool st.fi)else some (.tuple [])).bind fun t105=>
(qah (.bool (!(c==42))) (some (.bool true)) (some t105)).bind k)=k (.bool (!(c==42)||st.fi)):=fun k=>by
      cases c==42<;>rfl
  rw[e42,show ev E0 K (m+5)=ev E0 K (m+4+1)from rfl,qim (hK 18 (by decide))]at e;by_cases h42:c=42/\st.fi=false
  . rw[iP h42]
    rw[h42.1,h42.2,show(!((42:UInt8)==42)||false)=false from rfl,iN Bool.false_ne_true,callP_pan]at e;exact⟨S3,rdF e,gg⟩
  . rw[iN h42]
    have ht:(!(c==42)||st.fi)=true:=by
     cases hq:(c==42)with
     | false=>rfl
     | true=>
      cases hf:st.fi with
      | true=>rfl
      | false=>exact absurd ⟨eq_of_beq hq,hf⟩ h42
    rw[ht,iP rfl,callP_ret]at e;obtain⟨T,lv',t1,t2,t3⟩:=qjl (hK 13 (by decide)) (hK 27 (by decide)) (m+3) b3' (by omega) c;rw[show ev E0 K (m+4+1)=ev E0 K (m+3+2)from rfl,t1,callP_ret]at e;exact⟨T,rdF e,⟨lv',_,t2,hR.add (stp_take c)⟩,gg.trans t3⟩
 by_cases h36:c=36
 . rw[h36,beq_self_eq_true]at hF
   simp only[qaa,oB,cT,qg8,qcn,Nat.zero_add,b2.o3,qb8,b2.o2,lnStr_sv,binV_ii,intsV_eql]at hF;by_cases hie:st.i+1=s.length
   . rw[iP ⟨h36,.inl hie⟩]
     rw[show decide (((st.i+1:Nat):Int)=(s.length:Int))=true by rw[decide_eq_true_eq]; omega]at hF;simp only[qaa,qaq,qas,Bool.not_true,oB,cF,cT,pickV_bool,qbh,qb7]at hF;rw[qbp (by rfl),qam on2,ifK_bool,cT]at hF;exact endq hF
   . rw[show decide (((st.i+1:Nat):Int)=(s.length:Int))=false by rw[decide_eq_false_iff_not]; omega]at hF
     simp only[qaa,qaq,qas,nF,oB,cF,cT,pickV_bool,qg8,qcn,Nat.zero_add,qb7,b2.o4,qb8,binV_ii,intsV_gtr]at hF;by_cases hd0:0<d
     . rw[show decide ((0:Int)<(d:Int))=true by rw[decide_eq_true_eq]; omega]at hF
       simp only[qaa,oB,cT]at hF;obtain⟨La,la1,la2⟩:=at_on hK (m+2) b2 hi [92,41];rw[show ev E0 K (m+5)=ev E0 K (m+2+3)from rfl,la1,qbh,qia (by rfl),qiq,qam on2,ifK_bool]at hF;cases hp:qae (s.drop (st.i+1)) [92,41]with
       | true=>
        rw[hp,cT]at hF;rw[iP ⟨h36,.inr ⟨hd0,rfl⟩⟩];exact endq hF
       | false=>
        rw[hp,cF]at hF;rw[iN (fun hh=>by rcases hh.2 with h|h; exact hie h; exact absurd h.2 (by decide))];refine noneq (hF.trans ?_);rw[h36]at hlit;rw[h36];exact hlit _
     . rw[show decide ((0:Int)<(d:Int))=false by rw[decide_eq_false_iff_not]; omega]at hF
       simp only[qaa,qaq,qas,oB,cF,pickV_bool,qbh,qb7]at hF;rw[qbp (by rfl),qam on2,ifK_bool,cF]at hF;rw[iN (fun hh=>by rcases hh.2 with h|h<;>omega)];refine noneq (hF.trans ?_);rw[h36]at hlit;rw[h36];exact hlit _
 . rw[iN (fun hh=>h36 hh.1)]
   rw[beq_false_of_ne h36]at hF;simp only[qaa,qaq,qas,oB,cF,pickV_bool,qbh,qb7]at hF;rw[qbp (by rfl),qam on2,ifK_bool,cF]at hF;exact noneq (hF.trans (hlit _))
end
theorem Frag.ne {k d:Nat} {a:List AS} {n:Bool} (h:Frag k a n d):n=false->a≠[]:=by
 induction h with
 | nil k=>intro h; cases h
 | set k p=>intro _ h; cases h
 | mark k j t h=>intro h; cases h
 | cat k a b na nb da db ha hb iha ihb=>
  intro hn h;obtain⟨h1,h2⟩:=List.append_eq_nil_iff.1 h;cases na with
  | false=>exact iha rfl h1
  | true=>
   rw[Bool.true_and]at hn;exact ihb hn h2
 | star k a da ha ih=>intro h; cases h
theorem Frag.to_le {k d:Nat} {a:List AS} {n:Bool} (h:Frag k a n d):∀x∈a,x.kind=3\/x.kind=4->x.to_<=k+a.length:=fun x hx hk=>by
 obtain⟨gl,_,_,_,g4⟩:=h.pot 0;obtain⟨j,hj,rfl⟩:=List.mem_iff_getElem.1 hx
 exact((g4 j _ (List.getElem?_eq_getElem hj)).2 a[j].to_ 0 0 (by
  unfold qch
  rcases hk with hk|hk<;>simp[hk])).2.1
section
variable {b N0:Nat} {s:List UInt8}
noncomputable def body12 (self:EV) (N:Nat) (nk:Ac->St->Rs) (ek:Nat->Ac->St->Rs) (n:Nat) (v0 v3:V) (S36:St):Rs:=
(qa2 v0).bind fun t38=>
(faP 0 true 2 t38).bind fun t39=>
(faP 0 false 1 t39).bind fun t40=>
(ld1 t40 S36).bind fun p41=>
(lnS p41.1 p41.2).bind fun p42=>
qad (self.f 17 [v0] p42.2) fun t45 S45=>
(qaj t45 0).bind fun t47=>
(qaj t45 1).bind fun t48=>
(qa1 true t48).bind fun g53=>(bif g53 then some v0 else some (.tuple [])).bind fun t53=>
(qa1 true t48).bind fun g54=>qad (bif g54 then self.f 16 [t53,(sv [42])] S45 else some (.ret (.tuple []),S45)) fun t54 S54=>
(qah t48 (some t54) (some (.bool false))).bind fun t55=>
ifK t55 (
(qa2 v0).bind fun t57=>
(faP 3 false 1 t57).bind fun t58=>
(ld1 t58 S54).bind fun p59=>
(qa4 E0 .add 3 false true p59.1 (.int .i64 1)).bind fun t60=>
(qa2 v0).bind fun t61=>
(faP 3 false 1 t61).bind fun t62=>
(stP 1 t62 t60 p59.2).bind fun p63=>
(unV .not t47).bind fun t65=>
(qa1 true t65).bind fun g67=>(bif g67 then some v0 else some (.tuple [])).bind fun t67=>
(qa1 true t65).bind fun g68=>qad (bif g68 then self.f 16 [t67,(sv [42])] p63.2 else some (.ret (.tuple []),p63.2)) fun t68 S68=>
(qa1 true t65).bind fun g69=>(bif g69 then unV .not t68 else some (.tuple [])).bind fun t69=>
(qah t65 (some t69) (some (.bool false))).bind fun t70=>
qad (self.f 18 [t70] S68) fun t71 S71=>
qad (self.f 19 [v0,p42.1] S71) fun t74 S74=>
(qa1 true v3).bind fun g78=>(bif g78 then some (.bool true)else some (.tuple [])).bind fun t78=>
(qah v3 (some t78) (some (.bool false))).bind fun t79=>
qe0 self N nk ek n v0 t79 S74) (
(qa1 true v3).bind fun g83=>(bif g83 then some t47 else some (.tuple [])).bind fun t83=>
(qah v3 (some t83) (some (.bool false))).bind fun t84=>
qe0 self N nk ek n v0 t84 S54)
theorem body12_eq (self:EV) (N:Nat) (nk:Ac->St->Rs) (ek:Nat->Ac->St->Rs) (n:Nat) (v0 v3:V) (S36:St):body12 self N nk ek n v0 v3 S36 =
(qa2 v0).bind fun t38=>
(faP 0 true 2 t38).bind fun t39=>
(faP 0 false 1 t39).bind fun t40=>
(ld1 t40 S36).bind fun p41=>
(lnS p41.1 p41.2).bind fun p42=>
qad (self.f 17 [v0] p42.2) fun t45 S45=>
(qaj t45 0).bind fun t47=>
(qaj t45 1).bind fun t48=>
(qa1 true t48).bind fun g53=>(bif g53 then some v0 else some (.tuple [])).bind fun t53=>
(qa1 true t48).bind fun g54=>qad (bif g54 then self.f 16 [t53,(sv [42])] S45 else some (.ret (.tuple []),S45)) fun t54 S54=>
(qah t48 (some t54) (some (.bool false))).bind fun t55=>
ifK t55 (
(qa2 v0).bind fun t57=>
(faP 3 false 1 t57).bind fun t58=>
(ld1 t58 S54).bind fun p59=>
(qa4 E0 .add 3 false true p59.1 (.int .i64 1)).bind fun t60=>
(qa2 v0).bind fun t61=>
(faP 3 false 1 t61).bind fun t62=>
(stP 1 t62 t60 p59.2).bind fun p63=>
(unV .not t47).bind fun t65=>
(qa1 true t65).bind fun g67=>(bif g67 then some v0 else some (.tuple [])).bind fun t67=>
(qa1 true t65).bind fun g68=>qad (bif g68 then self.f 16 [t67,(sv [42])] p63.2 else some (.ret (.tuple []),p63.2)) fun t68 S68=>
(qa1 true t65).bind fun g69=>(bif g69 then unV .not t68 else some (.tuple [])).bind fun t69=>
(qah t65 (some t69) (some (.bool false))).bind fun t70=>
qad (self.f 18 [t70] S68) fun t71 S71=>
qad (self.f 19 [v0,p42.1] S71) fun t74 S74=>
(qa1 true v3).bind fun g78=>(bif g78 then some (.bool true)else some (.tuple [])).bind fun t78=>
(qah v3 (some t78) (some (.bool false))).bind fun t79=>
qe0 self N nk ek n v0 t79 S74) (
(qa1 true v3).bind fun g83=>(bif g83 then some t47 else some (.tuple [])).bind fun t83=>
(qah v3 (some t83) (some (.bool false))).bind fun t84=>
qe0 self N nk ek n v0 t84 S54):=rfl
theorem L12_13_t (self:EV) (N:Nat) (nk:Ac->St->Rs) (ek:Nat->Ac->St->Rs) (n:Nat) ( v0 v3:V) (S:St):qe0 self N nk ek (n+1) v0 v3 S =
(qa2 v0).bind fun t15=>
(faP 3 false 1 t15).bind fun t16=>
(ld1 t16 (onS S)).bind fun p17=>
(qa2 v0).bind fun t19=>
(faP 2 false 1 t19).bind fun t20=>
(ld1 t20 (onS p17.2)).bind fun p21=>
(qbu p21.1 (onS p21.2)).bind fun p22=>
(qa4 E0 .lss 3 false false p17.1 p22.1).bind fun t23=>
(qa1 true t23).bind fun g25=>(bif g25 then some v0 else some (.tuple [])).bind fun t25=>
(qa1 true t23).bind fun g26=>(bif g26 then qa2 t25 else some (.tuple [])).bind fun t26=>
(qa1 true t23).bind fun g27=>(bif g27 then faP 4 false 1 t26 else some (.tuple [])).bind fun t27=>
(qa1 true t23).bind fun g28=>(bif g28 then ld1 t27 (onS p22.2)else some (.tuple [],(onS p22.2))).bind fun p28=>
(qa1 true t23).bind fun g29=>(bif g29 then qa4 E0 .eql 3 false true p28.1 (.int .i64 0)else some (.tuple [])).bind fun t29=>
(qa1 true t23).bind fun g30=>(bif g30 then some t29 else some (.tuple [])).bind fun t30=>
(qa1 false t30).bind fun g31=>(bif g31 then some v0 else some (.tuple [])).bind fun t31=>
(qa1 false t30).bind fun g32=>qi6 (qao E0 (B12.r.r.r.l.l.l.l.l).ops) S 18 [[],[],[],p17.2.log,[],[],[],p21.2.log,p22.2.log,[],[],[],[],[],p28.2.log,[],[],[]] (bif g32 then self.f 16 [t31,(sv [92,41])] (onS p28.2)else some (.ret (.tuple []),(onS p28.2))) fun t32 S32=>
(qa1 false t30).bind fun g33=>(bif g33 then unV .not t32 else some (.tuple [])).bind fun t33=>
(qa1 true t23).bind fun g34=>(bif g34 then qah t30 (some (.bool true)) (some t33)else some (.tuple [])).bind fun t34=>
(qah t23 (some t34) (some (.bool false))).bind fun t35=>
qfq [(3,[7,8])] S [[],[],[],p17.2.log,[],[],[],p21.2.log,p22.2.log,[],[],[],[],[],p28.2.log,[],[],[],S32.log,[],[],[]] (onS S32) fun S36=>
ifK t35 (
body12 self N nk ek n v0 v3 S36) (
ek 0 (fr 74 [(0,v0),(3,v3)]) S36):=L12_13_eq self N nk ek n v0 v3 S
theorem body12_says {K:FuncId->Option KF} (hK:∀f,f≠9->K f=none) (hs:s.length<=300) {d:Nat} {st:PS} {all:Bool} (m k N:Nat) {S:St} {grp:PS->Option (PS×Bool)} (hG:GR K (m+3) b N0 s d st.g st.i grp) (h:Rd S b N0 s d st) (hlt:st.i<s.length) (ha:st.acc.length<=2*st.i) (hd:d<=st.g) (hg9:st.g<=9) (nk:Ac->St->Rs) (ek:Nat->Ac->St->Rs) (nxt:PS->Bool->Option (PS×Bool))
 (ih:∀(st':PS) (all':Bool) (S:St),Rd S b N0 s d st'->st'.i<=s.length->st.i+1<=st'.i->st'.acc.length<=2*st'.i->st.g<=st'.g->st'.g<=9->Says .bool (qe0 (ev E0 K (m+7)) N nk ek k (.ptr b 0) (.bool all') S) S b N0 s d (nxt st' all')) :
 Says .bool (body12 (ev E0 K (m+7)) N nk ek k (.ptr b 0) (.bool all) S) S b N0 s d ((pce s grp d st).bind fun r=>
  if r.2.2=true/\qae (s.drop r.1.i) [42]=true then
   if r.2.1=false/\qae (s.drop (r.1.i+1)) [42]=false then nxt ⟨r.1.i+1,r.1.g,r.1.fi,agn r.1.acc st.acc.length⟩ all else none
  else nxt r.1 (all&&r.2.1)):=by
 have hp:=piece_says hK (m+1) hG hs (by omega) hg9 h hlt ha;obtain⟨lv,ts,h0,hR⟩:=h;have hlen:=hR.len;have hB:=body12_eq (ev E0 K (m+7)) N nk ek k (.ptr b 0) (.bool all) S;simp only[qg8,qcn,Nat.zero_add,oB,Nat.add_zero]at hB;rw[h0.l0,oB]at hB;dsimp only at hB;rw[h0.steps.len,oB]at hB;dsimp only at hB;cases hpc:pce s grp d st with
 | none=>
  rw[hpc]at hp;obtain⟨T,t1,t2⟩:=hp;rw[show ev E0 K (m+7)=ev E0 K (m+1+6)from rfl,t1,callP_pan]at hB;exact⟨T,hB,t2⟩
 | some r=>
  obtain⟨st1,em,sr⟩:=r;rw[hpc]at hp;obtain⟨S1,t1,⟨lv1,ts1,c1,c2⟩,t3⟩:=hp;obtain⟨dp,p1,p2,p3⟩:=pce_pf hG.gp hlt hpc;have hil:=p1.il (Nat.le_of_lt hlt);have hal:=p1.al;have hlen1:=c2.len;have hg1:=p1.g;have hg19:=p1.g9 hg9;rw[show ev E0 K (m+7)=ev E0 K (m+1+6)from rfl,t1,callP_ret,show encP (em,sr)=.tuple [.bool em,.bool sr]from rfl,qlm,qln,oB,oB,show ev E0 K (m+1+6)=ev E0 K (m+4+3)from rfl]at hB;have at1:=at_run (hK 16 (by decide)) (hK 23 (by decide)) (hK 30 (by decide)) (m+4) c1 hil [42]
  have hst:∀(kk:V->St->Rs),((qa1 true (.bool sr)).bind fun g53=>(bif g53 then some (V.ptr b 0)else some (.tuple [])).bind fun t53=>
(qa1 true (.bool sr)).bind fun g54=>qad (bif g54 then(ev E0 K (m+4+3)).f 16 [t53,(sv [42])] S1 else some (.ret (.tuple []),S1)) fun t54 S54=>
(qah (.bool sr) (some t54) (some (.bool false))).bind fun t55=>kk t55 S54)=kk (.bool (sr&&qae (s.drop st1.i) [42])) S1:=fun kk=>by
      cases sr with
      | false=>rfl
      | true=>
       rw[qaa,oB,cT,oB,oB,cT,at1,callP_ret];rfl
  rw[hst,ifK_bool]at hB;rw[oB];simp only;cases hq:(sr&&qae (s.drop st1.i) [42])with
  | false=>
   rw[hq,cF]at hB;rw[iN (fun hh=>by rw[hh.1,hh.2]at hq; cases hq)]
   have e:∀(kk:V->Rs),((qa1 true (.bool all)).bind fun g83=>(bif g83 then some (V.bool em)else some (.tuple [])).bind fun t83=>
(qah (.bool all) (some t83) (some (.bool false))).bind kk)=kk (.bool (all&&em)):=fun kk=>by cases all<;>rfl
   rw[e]at hB;exact(ih st1 (all&&em) S1 ⟨lv1,ts1,c1,c2⟩ hil p3 (by omega) hg1 hg19).pre t3 hB
  | true=>
   rw[hq,cT]at hB;rw[bA]at hq;rw[iP hq];have hl1:st1.i+1<=s.length:=qcu hq.2 (by simp);rw[c1.l3,oB]at hB;dsimp only at hB;obtain⟨S2,d1,d2,d3⟩:=c1.putI (st1.i+1);rw[binV_ii,intsV_add,qa5 (by omega),oB,d1,oB]at hB;dsimp only at hB;have at2:=at_run (hK 16 (by decide)) (hK 23 (by decide)) (hK 30 (by decide)) (m+4) d2 hl1 [42]
   have hst2:∀(kk:V->St->Rs),((qa1 true (.bool (!em))).bind fun g67=>(bif g67 then some (V.ptr b 0)else some (.tuple [])).bind fun t67=>
(qa1 true (.bool (!em))).bind fun g68=>qad (bif g68 then(ev E0 K (m+4+3)).f 16 [t67,(sv [42])] S2 else some (.ret (.tuple []),S2)) fun t68 S68=>
(qa1 true (.bool (!em))).bind fun g69=>(bif g69 then unV .not t68 else some (.tuple [])).bind fun t69=>
(qah (.bool (!em)) (some t69) (some (.bool false))).bind fun t70=>kk t70 S68)=kk (.bool (!em&&!qae (s.drop (st1.i+1)) [42])) S2:=fun kk=>by
    cases em with
    | true=>rfl
    | false=>
     rw[nF,qaa,oB,cT,oB,oB,cT,at2,callP_ret,oB,cT,unV_not,oB];rfl
   rw[unV_not,oB,hst2,show ev E0 K (m+4+3)=ev E0 K (m+6+1)from rfl,qim (hK 18 (by decide))]at hB;cases hm:(!em&&!qae (s.drop (st1.i+1)) [42])with
   | false=>
    rw[hm,iN Bool.false_ne_true,callP_pan]at hB;rw[iN (fun hh=>by rw[hh.1,hh.2]at hm; cases hm)];exact⟨S2,hB,t3.trans d3⟩
   | true=>
    rw[hm,iP rfl,callP_ret]at hB;rw[bA,Bool.not_eq_true',Bool.not_eq_true']at hm;rw[iP hm];obtain⟨rfl,hm2⟩:=hm;obtain⟨X,x1,x2,x3,x4⟩:=p1.ex;have hX:=x2.ne rfl;have hXl:0<X.length:=List.length_pos_iff.2 hX;have hkl:ts.length<ts1.length:=by rw[hlen,hlen1,x1,lAq]; omega
    obtain⟨S3,lv3,us,e1,e2,e3,e4⟩:=again_run (hK 13 (by decide)) (hK 19 (by decide)) (m+5) d2 c2 (by omega) hkl (fun x hx hk=>by
     rw[hlen,x1,List.drop_left]at hx;have:=x2.to_le x hx hk;rw[x1,lAq]at hal
     omega)
    rw[show ev E0 K (m+6+1)=ev E0 K (m+5+2)from rfl,e1,callP_ret]at hB
    have e:∀(kk:V->Rs),((qa1 true (.bool all)).bind fun g78=>(bif g78 then some (V.bool true)else some (.tuple [])).bind fun t78=>
(qah (.bool all) (some t78) (some (.bool false))).bind kk)=kk (.bool all):=fun kk=>by cases all<;>rfl
    rw[e]at hB;rw[hlen]at e3;have hps:=p1.star (i:=st1.i+1) (lR _) hl1;have hal2:=hps.al;simp only at hal2;exact(ih ⟨st1.i+1,st1.g,st1.fi,agn st1.acc st.acc.length⟩ all S3 ⟨lv3,us,e2,e3⟩ hl1 (by simp only; omega) (by simp only; omega) hg1 hg19).pre ((t3.trans d3).trans e4) hB
theorem qly {K:FuncId->Option KF} (hK:∀f,f≠9->K f=none) (hs:s.length<=300) :
 ∀(f d:Nat) (st:PS) (all:Bool) (m k N:Nat) (S:St),Rd S b N0 s d st->st.i<=s.length->s.length-st.i<f->st.acc.length<=2*st.i->d<=st.g->st.g<=9->4*(9-st.g)<=m->s.length-st.i<k->
 Says .bool (qe0 (ev E0 K (m+7)) N (qfp (ev E0 K (m+7)) N (qbg E0 (ev E0 K (m+7)) Try.f12) qav) (exB 0 (qfp (ev E0 K (m+7)) N (qbg E0 (ev E0 K (m+7)) Try.f12) qav) qav) k (.ptr b 0) (.bool all) S) S b N0 s d (pcs s f d st all)
 | 0,d,st,all,m,k,N,S,_,_,hf,_,_,_,_,_=>by omega
 | f+1,d,st,all,m,0,N,S,_,_,_,_,_,_,_,hk=>by omega
 | f+1,d,st,all,m,k+1,N,S,h,hi,hf,ha,hd,hg9,hm,hk=>by
  have hGR:st.i<s.length->GR K (m+3) b N0 s d st.g st.i (fun st=>pcs s f (d+1) st true):=fun hlt=>by
   refine⟨gp_pcs f (d+1),fun hg1 st' fi S' hg' hfi' hi' hrd hil hal=>?_⟩;obtain⟨lv,ts,r1,r2⟩:=hrd;obtain⟨S1,a1,a2,a3⟩:=r1.putF true;obtain⟨m',rfl⟩:∃m',m=m'+4:=⟨m-4,by omega⟩
   have ih:=qly hK hs f (d+1) st' true m' qa3 qa3 S1 ⟨lv,ts,by rw[hfi']; exact a2,r2⟩ hil (by omega) hal (by omega) (by omega) (by omega) (by unfold qa3; omega);have hF:=F12_eq (ev E0 K (m'+7)) qa3 (.ptr b 0) S';simp only[qg8,qcn,Nat.zero_add,oB]at hF;rw[a1,oB]at hF;dsimp only at hF;have rdF:∀{r},F12 (ev E0 K (m'+7)) qa3 (.ptr b 0) S'=some r->(ev E0 K (m'+8)).f 12 [.ptr b 0] S'=some r:=fun e=>qax (c:=C12) (d:=B12) (by kernel_rfl) (by kernel_rfl) (qa7 C12 _ (by kernel_rfl)) (hK 12 (by decide)) e;show Says .bool ((ev E0 K (m'+8)).f 12 [.ptr b 0] S') S' b N0 s (d+1) (pcs s f (d+1) st' true);cases hr:pcs s f (d+1) st' true with
   | none=>
    rw[hr]at ih;obtain⟨T,t1,t2⟩:=ih;exact⟨T,rdF (hF.trans t1),a3.trans t2⟩
   | some q=>
    rw[hr]at ih;obtain⟨T,t1,t2,t3⟩:=ih;exact⟨T,rdF (hF.trans t1),t2,a3.trans t3⟩
  have h':=h;obtain⟨lv,ts,h0,hR⟩:=h';have hlen:=hR.len;have ho:=h0.on;have hF:=L12_13_t (ev E0 K (m+7)) N (qfp (ev E0 K (m+7)) N (qbg E0 (ev E0 K (m+7)) Try.f12) qav) (exB 0 (qfp (ev E0 K (m+7)) N (qbg E0 (ev E0 K (m+7)) Try.f12) qav) qav) k (.ptr b 0) (.bool all) S;simp only[qg8,qcn,Nat.zero_add,oB,Nat.add_zero]at hF;rw[h0.o3,oB]at hF;dsimp only at hF;rw[qb8,h0.o2,oB]at hF;dsimp only at hF;rw[qb8,lnStr_sv,oB]at hF;dsimp only at hF;rw[binV_ii,intsV_lss,oB]at hF;rw[pcs]
  have stop:qe0 (ev E0 K (m+7)) N (qfp (ev E0 K (m+7)) N (qbg E0 (ev E0 K (m+7)) Try.f12) qav) (exB 0 (qfp (ev E0 K (m+7)) N (qbg E0 (ev E0 K (m+7)) Try.f12) qav) qav) (k+1) (.ptr b 0) (.bool all) S=exB 0 (qfp (ev E0 K (m+7)) N (qbg E0 (ev E0 K (m+7)) Try.f12) qav) qav 0 (fr 74 [(0,.ptr b 0),(3,.bool all)]) S->Says .bool (qe0 (ev E0 K (m+7)) N (qfp (ev E0 K (m+7)) N (qbg E0 (ev E0 K (m+7)) Try.f12) qav) (exB 0 (qfp (ev E0 K (m+7)) N (qbg E0 (ev E0 K (m+7)) Try.f12) qav) qav) (k+1) (.ptr b 0) (.bool all) S) S b N0 s d (some (⟨st.i,st.g,false,st.acc⟩,all)):=fun e=>by
   obtain⟨T,a1,a2,a3⟩:=h0.putF false;refine⟨T,?_,⟨lv,ts,a2,hR⟩,a3⟩;rw[e,exB_same,R12_6_eq];simp only[qg8,qcn,Nat.zero_add,oB];rw[a1,oB]
  have go:st.i<s.length->qe0 (ev E0 K (m+7)) N (qfp (ev E0 K (m+7)) N (qbg E0 (ev E0 K (m+7)) Try.f12) qav) (exB 0 (qfp (ev E0 K (m+7)) N (qbg E0 (ev E0 K (m+7)) Try.f12) qav) qav) (k+1) (.ptr b 0) (.bool all) S=body12 (ev E0 K (m+7)) N (qfp (ev E0 K (m+7)) N (qbg E0 (ev E0 K (m+7)) Try.f12) qav) (exB 0 (qfp (ev E0 K (m+7)) N (qbg E0 (ev E0 K (m+7)) Try.f12) qav) qav) k (.ptr b 0) (.bool all) S->Says .bool (qe0 (ev E0 K (m+7)) N (qfp (ev E0 K (m+7)) N (qbg E0 (ev E0 K (m+7)) Try.f12) qav) (exB 0 (qfp (ev E0 K (m+7)) N (qbg E0 (ev E0 K (m+7)) Try.f12) qav) qav) (k+1) (.ptr b 0) (.bool all) S) S b N0 s d ((pce s (fun st=>pcs s f (d+1) st true) d st).bind fun r=>
   if r.2.2=true/\qae (s.drop r.1.i) [42]=true then
    if r.2.1=false/\qae (s.drop (r.1.i+1)) [42]=false then pcs s f d ⟨r.1.i+1,r.1.g,r.1.fi,agn r.1.acc st.acc.length⟩ all else none
   else pcs s f d r.1 (all&&r.2.1)):=fun hlt e=>by
   rw[e];exact body12_says hK hs m k N (hGR hlt) h hlt ha hd hg9 _ _ (fun st' all'=>pcs s f d st' all') (fun st' all' S' h1 h2 h3 h4 h5 h6=>qly hK hs f d st' all' m k N S' h1 h2 (by omega) h4 (by omega) h6 (by omega) (by omega))
  by_cases hlt:st.i<s.length
  . rw[qee hlt,qaa,oB,cT,oB,oB,cT,qg8,oB,oB,cT,qcn,Nat.zero_add,oB,oB,cT]at hF
    simp only[qb8,qb7]at hF;rw[h0.o4,oB,oB,cT]at hF;dsimp only at hF;rw[binV_ii,intsV_eql,oB]at hF;by_cases hd0:d=0
    . rw[iP ⟨hlt,.inl hd0⟩]
      rw[show decide ((d:Int)=0)=true by rw[decide_eq_true_eq]; omega]at hF;simp only[qaa,qaq,qas,oB,cF,cT,pickV_bool,qbh,qb7,qb8,Bool.not_true]at hF;rw[qbp (by rfl),qam ho,ifK_bool,cT]at hF;exact go hlt hF
    . rw[show decide ((d:Int)=0)=false by rw[decide_eq_false_iff_not]; omega]at hF
      obtain⟨La,la1,la2⟩:=at_on hK (m+4) h0 hi [92,41];simp only[qaa,qaq,qas,oB,cF,cT,pickV_bool,qb7,qb8,nF]at hF;rw[show ev E0 K (m+7)=ev E0 K (m+4+3)from rfl,la1,qbh]at hF;rw[unV_not,oB,qia (by rfl),qiq,qam ho,ifK_bool,show ev E0 K (m+4+3)=ev E0 K (m+7)from rfl]at hF;cases hp:qae (s.drop st.i) [92,41]with
      | false=>
       rw[hp,nF,cT]at hF;rw[iP ⟨hlt,.inr rfl⟩];exact go hlt hF
      | true=>
       rw[hp,Bool.not_true,cF]at hF;rw[iN (fun hh=>by rcases hh.2 with h|h; exact hd0 h; cases h)];exact stop hF
  . rw[iN (fun hh=>hlt hh.1)]
    rw[qed (by omega)]at hF;simp only[qaa,qaq,qas,oB,cF,pickV_bool,qbh,qb7,qb8]at hF;rw[qbp (by rfl),qam ho,ifK_bool,cF]at hF;exact stop hF
end
def rdE (n:Nat) (s:List UInt8):Option (PS×Bool):=pcs s n 0 ⟨0,0,true,[]⟩ true
structure Ex (s:List UInt8) (st:PS):Prop where
 exp:Exp (st.acc++[stA 6 0]) st.g
 len:st.acc.length<=2*s.length
 g9:st.g<=9
 mks:∀x∈st.acc,x.kind=5->2<=x.to_
 no:noA s->∀x∈st.acc,x.kind≠1/\x.kind≠2
 k6:∀x∈st.acc,x.kind≠6
 i:st.i=s.length
 to_:∀x∈st.acc,x.kind=3\/x.kind=4->x.to_<=st.acc.length
theorem ex_of {n:Nat} {s:List UInt8} {st:PS} {al:Bool} (h:rdE n s=some (st,al)):Ex s st:=by
 obtain⟨nu,dp,p1,_,p3,p4⟩:=qjz _ _ _ _ _ _ h;obtain⟨X,x1,x2,x3,x4⟩:=p1.ex;have hX:st.acc=X:=x1;have hil:=p1.il (Nat.zero_le _);have hal:=p1.al;have h9:=p1.g9 (Nat.zero_le _);have hi:=p4 rfl;simp only[List.length_nil]at hal x2 x3 p3;refine⟨?_,by omega,h9,fun x hx hk=>?_,fun hn x hx=>x4 hn x (by rw[<- hX]; exact hx),fun x hx=>?_,by omega,fun x hx hk=>?_⟩
 . rw[hX]
   exact exp_of x2 (by omega) fun x hx hk=>by have:=x3 x hx hk; omega
 . have:=x3 x (by rw[<- hX]; exact hx) hk; omega
 . obtain⟨gl,_,_,_,g4⟩:=x2.pot 0
   obtain⟨j,hj,rfl⟩:=List.mem_iff_getElem.1 (show x∈X by rw[<- hX]; exact hx);exact(g4 j _ (List.getElem?_eq_getElem hj)).1
 . obtain⟨gl,_,_,_,g4⟩:=x2.pot 0
   obtain⟨j,hj,rfl⟩:=List.mem_iff_getElem.1 (show x∈X by rw[<- hX]; exact hx);rw[hX]
   have:=((g4 j _ (List.getElem?_eq_getElem hj)).2 X[j].to_ 0 0 (by
    unfold qch
    rcases hk with hk|hk<;>simp[hk])).2.1
   omega
section
variable {s:List UInt8}
theorem allS_0:(qcx s).getD 0 0=94:=rfl
theorem allS_1:(qcx s).getD 1 0=92:=rfl
theorem allS_2:(qcx s).getD 2 0=40:=rfl
theorem allS_5:(qcx s).getD (s.length+5) 0=36:=by
 unfold qcx suf;rw[List.getD_eq_getElem?_getD,List.append_assoc,List.getElem?_append_right (by simp),List.getElem?_append_right (by simp)];simp only[List.length_cons,List.length_nil];rw[show s.length+5-(0+1+1+1)-s.length=2 by omega];rfl
theorem allS_d1 (t:List UInt8) (ht:t=[42]\/t=[94]):qae ((qcx s).drop 1) t=false:=by
 have:(qcx s).drop 1=92::40::(s++suf):=by
  unfold qcx;rw[List.append_assoc]; rfl
 rw[this];rcases ht with rfl|rfl<;>(unfold qae; simp)
theorem allS_d5:(qcx s).drop (s.length+5)=[36]:=by
 have:=qcz (s:=s) (i:=s.length) (lR _);rw[List.drop_length,List.nil_append]at this;rw[show s.length+5=(s.length+3)+2 by omega,<- List.drop_drop,this];rfl
theorem rd_all (hn:noA s) {n:Nat} (hl:s.length+1<n) {st:PS} {al:Bool} (h:rdE n s=some (st,al)):(st.g<=8->∃st' al',rdE (n+2) (qcx s)=some (st',al')/\st'.g=st.g+1/\st'.acc=P2++st.acc.map sh2++[stA 5 3,stA 2 0])/\(9<=st.g->rdE (n+2) (qcx s)=none):=by
 have hex:=ex_of h;have hi:=hex.i;have hlen:=qi2 s;obtain⟨l1,l2⟩:=qkj (P:=P2) hn rfl n 0 _ true _ _ h (Nat.zero_le _) (Nat.zero_le _) (.inl rfl);have hst:qe5 P2 ⟨0,0,true,[]⟩=⟨3,1,true,[stA 1 0,stA 5 2]⟩:=rfl;rw[hst,show(0:Nat)+1=1 from rfl]at l1 l2
 have s1:rdE (n+2) (qcx s)=pcs (qcx s) (n+1) 0 ⟨1,0,false,[stA 1 0]⟩ true:=by
  unfold rdE;rw[pcs,iP ⟨by simp only; omega,.inl rfl⟩];unfold pce;simp only;rw[allS_0,iP ⟨rfl,trivial⟩,oB];simp only;rw[iN (fun hh=>Bool.false_ne_true hh.1),allS_d1 _ (.inl rfl)];rfl
 have s2:pcs (qcx s) (n+1) 0 ⟨1,0,false,[stA 1 0]⟩ true=(pce (qcx s) (fun st=>pcs (qcx s) n 1 st true) 0 ⟨1,0,false,[stA 1 0]⟩).bind fun r=>
  if r.2.2=true/\qae ((qcx s).drop r.1.i) [42]=true then
   if r.2.1=false/\qae ((qcx s).drop (r.1.i+1)) [42]=false then pcs (qcx s) n 0 ⟨r.1.i+1,r.1.g,r.1.fi,agn r.1.acc [stA 1 0].length⟩ true else none
  else pcs (qcx s) n 0 r.1 (true&&r.2.1):=by
  rw[pcs,iP ⟨by simp only; omega,.inl rfl⟩]
 have s3:pce (qcx s) (fun st=>pcs (qcx s) n 1 st true) 0 ⟨1,0,false,[stA 1 0]⟩=((pcs (qcx s) n 1 ⟨3,1,true,[stA 1 0,stA 5 2]⟩ true).bind fun r=>
  if qae ((qcx s).drop r.1.i) [92,41]=true then some ((⟨r.1.i+2,r.1.g,r.1.fi,r.1.acc++[stA 5 3]⟩:PS),r.2)else none).map fun r=>(r.1,r.2,true):=by
  unfold pce;simp only;rw[allS_1,iN (fun hh=>absurd hh.1 (by decide)),iN (fun hh=>absurd hh.1 (by decide)),iN (by decide),iN (by decide),iP rfl];unfold strk;simp only;rw[allS_2,iP (by omega),iP rfl,iP (by omega)];rfl
 constructor
 . intro h8
   have hd:qae ((qcx s).drop (qe5 P2 st).i) [92,41]=true:=by
    show qae ((qcx s).drop (st.i+3)) [92,41]=true;rw[qcz (by omega),hi,List.drop_length];rfl
   rw[l1 h8,oB]at s3;simp only at s3;rw[iP hd]at s3;rw[s3]at s2;simp only[Option.map_some,oB]at s2
   have h5:(qcx s).drop ((qe5 P2 st).i+2)=[36]:=by
    show(qcx s).drop (st.i+3+2)=_;rw[hi];exact allS_d5
   rw[h5,iN (fun hh=>absurd hh.2 (by decide))]at s2;obtain⟨n',rfl⟩:∃n',n=n'+1+1:=⟨n-2,by omega⟩
   rw[s1,s2,pcs];have hi5:(qe5 P2 st).i+2=s.length+5:=by show st.i+3+2=_; omega
   rw[iP ⟨by simp only; omega,.inl rfl⟩];unfold pce;simp only;rw[hi5,allS_5,iN (fun hh=>absurd hh.1 (by decide)),iP ⟨rfl,.inl (by omega)⟩,oB];simp only;rw[iN (fun hh=>Bool.false_ne_true hh.1),pcs,iN (fun hh=>by have:=hh.1; simp only at this; omega)];refine⟨_,_,rfl,rfl,?_⟩;show(P2++st.acc.map sh2)++[stA 5 3]++[stA 2 0]=_;simp
 . intro h9
   rw[s1,s2,s3,l2 h9];rfl
end
section
variable {self:EV} {a:Ac} {p0 p1:Nat} {S:St}
theorem lv6 (h2:evO E0 a (.tmp 2)=some (.ptr p0 0)) (h3:evO E0 a (.tmp 3)=some (.ptr p1 0)) (ho:S.on=false) {u v:V} (hp0:AgAt S p0 22 1 (Ev.one u)) (hp1:AgAt S p1 23 1 (Ev.one v)) :
 lvK E0 self Try.f6 a [] .ret S=some (.ret (.tuple [u,v]),S):=by
 have h:lvK E0 self Try.f6 a [] .ret S=(evO E0 a (.tmp 2)).bind fun v=>(ldRes E0 22 v S).bind fun p=>(evO E0 a (.tmp 3)).bind fun w=>(ldRes E0 23 w p.2).bind fun q=>some (.ret (.tuple [p.1,q.1]),q.2):=by kernel_rfl
 rw[h,h2,oB,show ldRes E0 22 (.ptr p0 0) S=ldr1 (.ptr p0 0) S by kernel_rfl,hp0.ldr_one ho,oB,h3,oB];dsimp only;rw[show ldRes E0 23 (.ptr p1 0) S=ldr1 (.ptr p1 0) S by kernel_rfl,hp1.ldr_one ho,oB]
theorem fin6 (hd:a.defers=[ad 11 [] [.ptr p0 0,.ptr p1 0]]) (h2:evO E0 a (.tmp 2)=some (.ptr p0 0)) (h3:evO E0 a (.tmp 3)=some (.ptr p1 0)) (ho:S.on=false) {u v:V} (hp0:AgAt S p0 22 1 (Ev.one u)) (hp1:AgAt S p1 23 1 (Ev.one v)) :
 finR E0 self Try.f6 a S=some (.ret (.tuple [u,v]),S):=by
 rw[finR_defer hd];refine qlz (ALe.refl a) ?_;rw[E11r,show qa4 E0 .neq 20 false true .niliface .niliface=some (.bool false) by kernel_rfl,oB,ifK_bool,cF];exact lv6 h2 h3 ho hp0 hp1
end
theorem build44 (s:List UInt8):qau E0 44 [(1,sv s)]=some (vAgg (r6 0 0 .nilslice s 0 false)):=by kernel_rfl
noncomputable def WTt:Tr V:=match WT with|.agg _ t=>t|_=>.nil
theorem WT_eq:WT=.agg 0 WTt:=by kernel_rfl
theorem wrong_neq:qa4 E0 .neq 20 false true qec .niliface=some (.bool true):=by kernel_rfl
theorem wrong_is:ql3 E0 37 true qec=some (.tuple [WT,.bool true]):=by kernel_rfl
section
variable {self:EV} {a:Ac} {p0 p1:Nat} {S:St}
theorem pan6 (hd:a.defers=[ad 11 [] [.ptr p0 0,.ptr p1 0]]) (h2:evO E0 a (.tmp 2)=some (.ptr p0 0)) (h3:evO E0 a (.tmp 3)=some (.ptr p1 0)) (ho:S.on=false) {u v:V} (hp0:AgAt S p0 22 1 (Ev.one u)) (hp1:AgAt S p1 23 1 (Ev.one v)) (h0n:p0<S.next) (h1n:p1<S.next) (h01:p0≠p1) :
 ∃T,qbt E0 self Try.f6 a a.defers (.pan qec) S=some (.ret (.tuple [.nilptr,.int .i64 4]),T)/\Grew (fun x=>x=p0\/x=p1) S T:=by
 obtain⟨a1,a2,a3⟩:=qe2 ho 37 0 (Tr.ofListFrom .nil [] 0);have on1:(nwP 37 0 (Tr.ofListFrom .nil [] 0) S).2.on=false:=qfs ho _;obtain⟨S2,b1,b2,b3,b4⟩:=a1.stA on1 (by unfold big; decide) WTt;have on2:=b3.on.trans on1;have g2:Grew (fun _=>False) S S2:=a2.own (lR _) b3;have hp02:=hp0.grew h0n (fun h=>h) g2;have hp12:=hp1.grew h1n (fun h=>h) g2;obtain⟨S3,c1,c2,c3,c4⟩:=hp02.st_one on2 .nilptr rfl rfl rfl;have on3:=c3.on.trans on2;have hp13:=hp12.grew (Nat.lt_of_lt_of_le h1n g2.next) (fun e=>h01 e.symm) c3;obtain⟨S4,d1,d2,d3,d4⟩:=hp13.st_one on3 (.int .i64 4) rfl rfl rfl;have on4:=d3.on.trans on3;have hp04:=c2.grew (by have:=g2.next; have:=c3.next; omega) (fun e=>h01 e) d3;refine⟨S4,?_,((g2.mono fun _ _ h=>h.elim).trans (c3.mono fun x _ h=>.inl h)).trans (d3.mono fun x _ h=>.inr h)⟩;rw[hd];refine qlz (ALe.refl a) ?_;rw[E11p,wrong_neq,oB,ifK_bool,cT,wrong_is,oB,qlm,qln,oB,oB,oB,qde,WT_eq,b1,oB];dsimp only;rw[unV_not,oB,Bool.not_true,ifK_bool,cF,c1,oB];dsimp only;rw[d1,oB];dsimp only;exact lv6 h2 h3 on4 hp04 d2
end
theorem qcs {K:FuncId->Option KF} (hK:∀f,f≠9->K f=none) (m:Nat) (hm:36<=m) {s:List UInt8} (hs:s.length<=255) {n:Nat} (hn:s.length<n) (S:St) (ho:S.on=false) :
 match rdE n s with
 | some (st,_)=>∃T b lv ts,(ev E0 K (m+9)).f 6 [sv s] S=some (.ret (.tuple [.ptr b 0,.int .i64 0]),T)/\S.next<=b/\Rdr st.g 0 T b S.next s st.i st.fi lv ts/\Rws ts (st.acc++[stA 6 0])/\Grew (fun x=>S.next<=x) S T
 | none=>∃T,(ev E0 K (m+9)).f 6 [sv s] S=some (.ret (.tuple [.nilptr,.int .i64 4]),T)/\Grew (fun x=>S.next<=x) S T:=by
 obtain⟨a1,a2,a3⟩:=qe2 ho 22 1 (Ev.one .nilptr);have on1:(nwP 22 1 (Ev.one .nilptr) S).2.on=false:=qfs ho _;have hF:=F6_eq (ev E0 K (m+8)) qa3 (sv s) S;rw[oB,qde]at hF;generalize (nwP 22 1 (Ev.one .nilptr) S).2=S1 at a1 a2 a3 on1 hF;obtain⟨b1,b2,b3⟩:=qe2 on1 23 1 (Ev.one (.int .i64 0));have on2:(nwP 23 1 (Ev.one (.int .i64 0)) S1).2.on=false:=qfs on1 _;rw[oB,qde]at hF;generalize (nwP 23 1 (Ev.one (.int .i64 0)) S1).2=S2 at b1 b2 b3 on2 hF;obtain⟨S3,c1,c2,c3,c4⟩:=box_new on2 44 (r6 0 0 .nilslice s 0 false);have on3:=c3.on.trans on2;have hR:Rdr 0 0 S3 S2.next S2.next s 0 false .nilslice []:=⟨on3,lR _,by omega,c2,.inl ⟨rfl,rfl⟩⟩
 have rdF:∀{r},F6 (ev E0 K (m+8)) qa3 (sv s) S=some r->(ev E0 K (m+9)).f 6 [sv s] S=some r:=fun e=>qax (c:=C6) (d:=B6) (by kernel_rfl) (by kernel_rfl) (qa7 C6 _ (by kernel_rfl)) (hK 6 (by decide)) e;rw[lnStr_sv,oB]at hF;dsimp only at hF;rw[binV_ii,intsV_gtr,show decide ((255:Int)<(s.length:Int))=false by rw[decide_eq_false_iff_not]; omega,oB,ifK_bool,cF,build44,oB,c1,oB]at hF;dsimp only at hF;obtain⟨S4,d1,d2,d3⟩:=hR.putF true;have hL:=qly hK (show s.length<=300 by omega) n 0 ⟨0,0,true,[]⟩ true m qa3 qa3 S4 ⟨_,_,d2,.nil⟩ (Nat.zero_le _) (by simp only; omega) (Nat.zero_le _) (lR _) (by simp) (by simp only; omega) (by simp only; unfold qa3; omega);have h12:=F12_eq (ev E0 K (m+7)) qa3 (.ptr S2.next 0) S3;simp only[qg8,qcn,Nat.zero_add,oB]at h12;rw[d1,oB]at h12;dsimp only at h12;have rd12:∀{r},F12 (ev E0 K (m+7)) qa3 (.ptr S2.next 0) S3=some r->(ev E0 K (m+8)).f 12 [.ptr S2.next 0] S3=some r:=fun e=>qax (c:=C12) (d:=B12) (by kernel_rfl) (by kernel_rfl) (qa7 C12 _ (by kernel_rfl)) (hK 12 (by decide)) e;have g03:Grew (fun x=>S.next<=x) S S3:=((a2.trans b2).trans c3).mono fun _ _ h=>h.elim;unfold rdE;cases hr:pcs s n 0 ⟨0,0,true,[]⟩ true with
 | none=>
  rw[hr]at hL;obtain⟨T,t1,t2⟩:=hL;have gT:Grew (fun x=>S2.next<=x) S3 T:=d3.trans t2;have onT:=gT.on.trans on3;rw[rd12 (h12.trans t1),callPF_pan]at hF;have ga:=((a1.grew (by omega) (fun h=>h) b2).grew (by omega) (fun h=>h) c3).grew (by omega) (by omega) gT;have gb:=(b1.grew (by omega) (fun h=>h) c3).grew (by omega) (by omega) gT;obtain⟨U,u1,u2⟩:=pan6 (self:=ev E0 K (m+8)) (a:=frD 20 [(0,sv s),(2,.ptr S.next 0),(3,.ptr S1.next 0),(4,.ptr S2.next 0),(5,sv s),(6,.int .i64 (s.length:Int)),(7,.bool false),(8,(.fn (.func 11) [] [.ptr S.next 0,.ptr S1.next 0])),(9,sv s),(10,vAgg (r6 0 0 .nilslice s 0 false)),(11,.ptr S2.next 0),(12,.ptr S2.next 0)] (adOf (.fn (.func 11) [] [.ptr S.next 0,.ptr S1.next 0]) []::[])) rfl (by kernel_rfl) (by kernel_rfl) onT ga gb (by have:=gT.next; omega) (by have:=gT.next; omega) (by omega);exact⟨U,rdF (hF.trans u1),(g03.trans (gT.mono fun x _ hx=>by omega)).trans (u2.mono fun x _ hx=>by omega)⟩
 | some q=>
  obtain⟨st,al⟩:=q;rw[hr]at hL;obtain⟨T,t1,⟨lv,ts,t2,t2'⟩,t3⟩:=hL;have gT:Grew (fun x=>S2.next<=x) S3 T:=d3.trans t3;rw[rd12 (h12.trans t1),callPF_ret,build_6,oB]at hF;obtain⟨n,dp,p1,_,_,_⟩:=qjz _ _ _ _ _ _ hr;have hal:=p1.al;have hil:=p1.il (Nat.zero_le _);have hlen:=t2'.len;simp only[List.length_nil]at hal;obtain⟨S5,lv5,e1,e2,e3⟩:=qen (hK 13 (by decide)) (m+7) t2 (by omega) (TK 6);have on5:=e2.on;have g5:Grew (fun x=>S2.next<=x) S3 S5:=gT.trans e3;have n5:=g5.next
  rw[show ev E0 K (m+8)=ev E0 K (m+7+1)from rfl,e1,callPF_ret,qg8,oB,qcn,oB,Nat.add_zero]at hF;have ga:=((a1.grew (by omega) (fun h=>h) b2).grew (by omega) (fun h=>h) c3).grew (by omega) (by omega) g5;have gb:=(b1.grew (by omega) (fun h=>h) c3).grew (by omega) (by omega) g5;obtain⟨S6,f1,f2,f3,f4⟩:=ga.st_one on5 (.ptr S2.next 0) rfl rfl rfl;have on6:=f3.on.trans on5;have gb6:=gb.grew (by omega) (by omega) f3;obtain⟨S7,g1,g2,g3,g4⟩:=gb6.st_one on6 (.int .i64 0) rfl rfl rfl;have on7:=g3.on.trans on6;have f2':=f2.grew (by omega) (by omega) g3;have e2':Rdr st.g 0 S7 S2.next S2.next s st.i st.fi lv5 (ts++[TK 6]):=(e2.grew (fun x _ h1 h2=>by omega) f3).grew (fun x _ h1 h2=>by omega) g3
  rw[f1,oB]at hF;dsimp only at hF;rw[g1,oB]at hF;refine⟨S7,S2.next,lv5,ts++[TK 6],rdF (hF.trans (fin6 rfl (by kernel_rfl) (by kernel_rfl) on7 f2' g2)),by omega,⟨e2'.on,by omega,e2'.hi,e2'.bx,?_⟩,t2'.add stp_6,?_⟩
  . rcases e2'.steps with h|⟨h1,r,h2,h3,h4,h5⟩
    . exact .inl h
    . exact .inr ⟨h1,r,h2,h3,by omega,h5⟩
  . exact((g03.trans (g5.mono fun x _ hx=>by omega)).trans (f3.mono fun x _ hx=>by omega)).trans (g3.mono fun x _ hx=>by omega)
end Go.Proofs.Ytachpdpmoihjmaa.W
