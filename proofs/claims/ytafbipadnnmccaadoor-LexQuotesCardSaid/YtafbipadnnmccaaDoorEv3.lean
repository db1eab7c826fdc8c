/-
  THE EVALUATOR AND ITS SOUNDNESS: what it says of a call holds of the call in the model,in whatever world,on whatever tape,part 3 of 3 (no condition).
-/
import Derived.Test.YtafbipadnnmccaaDoorEv2
import Derived.LoopNIn
import Derived.Recover
import Derived.RangeFuncLeaves
import Derived.RangeFuncNested
import Derived.Below
import Derived.ChangeSame
import Derived.WideShapes
import Derived.Lib.Repeat
import Derived.KernelRfl
import Derived.Shelf.SlIter.Keys
import Derived.Shelf.SlIter.Sorted
import Derived.Shelf.SlIter.Nil
import Derived.RangeFuncGives
import Derived.Maps.Range
import Derived.Sort.KeysCollected
import Derived.Laws.AppendOwn
import Derived.Shelf.SortM.Plain
import Derived.Shelf.SortM.SortNone
import Derived.Maps.RangeRun
import Derived.Shelf.Strings.Builder1
import Derived.Lib.UnsafeStr
noncomputable section
namespace Go.Proofs.YtafbipadnnmccaaDoor.Ev
open Go.RowKit
section
variable {P:Program} {E:Env} {w0:Base} {self:EV}
def Rnd (ρ:Rho) (r rd:Option Nat):Prop:=
 match r with
 | none=>rd=none
 | some l=>∃cl sh sz,ρ l=some (cl,sh,sz)/\rd=some cl
theorem Rnd.mono {ρ ρ':Rho} (hle:ρ.le ρ') {r rd:Option Nat} (h:Rnd ρ r rd):Rnd ρ' r rd:=by
 cases r with
 | none=>exact h
 | some l=>obtain⟨cl,sh,sz,h1,h2⟩:=h; exact⟨cl,sh,sz,hle _ _ h1,h2⟩
theorem Rnd.none {ρ:Rho} {r rd:Option Nat} (h:Rnd ρ r rd):r=none->rd=none:=fun e=>by subst e; exact h
theorem opsL_round {ops:Array Oper}:∀(l:List Oper) {a:Ac} {s:St} {x:X} {a':Ac} {s':St},(opsL E ops l).run self a s=some (x,a',s')->a'.round=a.round
 | [],a,s,x,a',s',h=>by
  have h':some (X.norm,a,s)=some (x,a',s'):=h;simp only[oS,pM]at h';rw[h'.2.1]
 | o::l,a,s,x,a',s',h=>by
  have h':((op1 E ops o).run self a s).bind (seqOn (opsL E ops l) self)=some (x,a',s'):=h;simp only[oI,Prod.exists]at h';obtain⟨x1,a1,s1,h1,h2⟩:=h';have r1:=qj1 h1;cases x1 with
  | norm=>exact(opsL_round l h2).trans r1
  | _=>simp only[seqOn,oS,pM]at h2; rw[<- h2.2.1]; exact r1
theorem opsD_round {ops:Array Oper}:∀(l:List Oper) {a:Ac} {s:St} {x:X} {a':Ac} {s':St} {ls:List (List LE)},(opsD E ops l).run self a s=some (x,a',s',ls)->a'.round=a.round
 | [],a,s,x,a',s',ls,h=>by
  have h':some (X.norm,a,s,[])=some (x,a',s',ls):=h;simp only[oS,pM]at h';rw[h'.2.1]
 | o::l,a,s,x,a',s',ls,h=>by
  have h':((op1 E ops o).run self a (fresh s)).bind (qf1 (opsD E ops l) self)=some (x,a',s',ls):=h;simp only[oI,Prod.exists]at h';obtain⟨x1,a1,s1,h1,h2⟩:=h';have r1:=qj1 h1;cases x1 with
  | norm=>
   simp only[qf1,oI,oS]at h2;obtain⟨q,hq,h2⟩:=h2;obtain⟨qx,qa,qs,ql⟩:=q;simp only[pM]at h2;rw[<- h2.2.1];exact(opsD_round l hq).trans r1
  | _=>simp only[qf1,oS,pM]at h2; rw[<- h2.2.1]; exact r1
theorem endLoop_act {l:Nat} {a:Ac} {s:St} {x:X} {a':Ac} {s':St} (h:endLoop l a s=some (x,a',s')):a'=a:=by
 unfold endLoop at h;simp only[oI]at h;obtain⟨p,_,h⟩:=h;split at h
 . rename_i st pend tmps n params assign body _
   cases hb2:Nat.beq st 2 with
   | true=>rw[hb2]at h; cases h
   | false=>
    rw[hb2]at h;simp only[cF]at h;split at h<;>simp only[oS,pM,reduceCtorEq]at h
    all_goals exact h.2.1.symm
 . cases h
theorem qj3 {l:Nat} {a:Ac} {nx:Nx} {x:X} {a':Ac} {s':St} (h:rangeCall self l a nx=some (x,a',s')):a'=a:=by
 cases nx<;>simp only[rangeCall,reduceCtorEq]at h;simp only[oI,Prod.exists]at h;obtain⟨e,s1,_,h⟩:=h;cases e with
 | ret v=>exact endLoop_act h
 | pan v=>simp only[qh2,oS,pM]at h; exact h.2.1.symm
theorem qbn:∀(c:Code) {a:Ac} {s:St} {x:X} {a':Ac} {s':St},(qd7 E c).run self a s=some (x,a',s')->a'.round=a.round
 | .skip,a,s,x,a',s',h=>by
  have h':some (X.norm,a,s)=some (x,a',s'):=h;simp only[oS,pM]at h'; rw[h'.2.1]
 | .label l,a,s,x,a',s',h=>by
  have h':some (X.norm,a,s)=some (x,a',s'):=h;simp only[oS,pM]at h'; rw[h'.2.1]
 | .exit id,a,s,x,a',s',h=>by
  have h':some (X.exit id,a,s)=some (x,a',s'):=h;simp only[oS,pM]at h'; rw[h'.2.1]
 | .ret,a,s,x,a',s',h=>by
  have h':some (X.ret,a,s)=some (x,a',s'):=h;simp only[oS,pM]at h'; rw[h'.2.1]
 | .region id ops false,a,s,x,a',s',h=>opsL_round ops.toList h
 | .region id ops true,a,s,x,a',s',h=>by
  have h':qlw (qas E ops) (opsD E ops ops.toList) self a s=some (x,a',s'):=h;unfold qlw at h';cases hok:(qas E ops).ok with
  | false=>rw[hok]at h'; cases h'
  | true=>
   rw[hok]at h';simp only[cT,oI]at h';obtain⟨q,hq,h'⟩:=h';obtain⟨qx,qa,qs,ql⟩:=q;have hr:=opsD_round ops.toList hq;unfold qc3 at h';cases qx<;>simp only[reduceCtorEq]at h'
   . cases hc:(qag ql (qas E ops).prs&&Nat.beq qa.defers.length a.defers.length)with
     | false=>rw[hc]at h'; cases h'
     | true=>rw[hc]at h'; simp only[cT,oS,pM]at h'; rw[<- h'.2.1]; exact hr
   . cases hc:(qag ql (qas E ops).prs&&Nat.beq qa.defers.length a.defers.length)with
     | false=>rw[hc]at h'; cases h'
     | true=>
      rw[hc]at h';simp only[cT,oI,oS,pM]at h';obtain⟨a1,hp,_,rfl,_⟩:=h';rw[pinned_round hp]; exact hr
 | .seq y z,a,s,x,a',s',h=>by
  have h':((qd7 E y).run self a s).bind (seqOn (qd7 E z) self)=some (x,a',s'):=h;simp only[oI,Prod.exists]at h';obtain⟨x1,a1,s1,h1,h2⟩:=h';have r1:=qbn y h1;cases x1 with
  | norm=>exact(qbn z h2).trans r1
  | _=>simp only[seqOn,oS,pM]at h2; rw[<- h2.2.1]; exact r1
 | .cond c y z,a,s,x,a',s',h=>by
  have h':condC (evF E c) (qd7 E y) (qd7 E z) self a s=some (x,a',s'):=h;unfold condC at h';simp only[oI]at h';obtain⟨v,hv,h'⟩:=h';cases v<;>simp only[reduceCtorEq]at h';rename_i b;cases b with
  | true=>exact qbn y h'
  | false=>exact qbn z h'
 | .block id y,a,s,x,a',s',h=>by
  have h':((qd7 E y).run self a s).bind (qlj id)=some (x,a',s'):=h;simp only[oI,Prod.exists]at h';obtain⟨x1,a1,s1,h1,h2⟩:=h';have r1:=qbn y h1;cases x1<;>simp only[qlj,oS,pM]at h2<;>rw[<- h2.2.1]<;>exact r1
 | .loop y,a,s,x,a',s',h=>by
  have key:∀(n:Nat) {a:Ac} {s:St},qjk (qd7 E y) n self a s=some (x,a',s')->a'.round=a.round:=by
   intro n
   induction n with
   | zero=>intro a s h; cases h
   | succ n ih=>
    intro a s h;have h':((qd7 E y).run self a s).bind (loopOn (qjk (qd7 E y) n) self)=some (x,a',s'):=h;simp only[oI,Prod.exists]at h';obtain⟨x1,a1,s1,h1,h2⟩:=h';have r1:=qbn y h1;cases x1 with
    | norm=>exact(ih h2).trans r1
    | _=>simp only[loopOn,oS,pM]at h2; rw[<- h2.2.1]; exact r1
  rw[show qd7 E (.loop y)=⟨qjk (qd7 E y) qa3⟩from rfl]at h;generalize qa3=n at h;exact key n h
 | .rangeFunc f ps y z,a,s,x,a',s',h=>by
  have h':qfc E f ps.toList y z self a s=some (x,a',s'):=h;unfold qfc at h';split at h'
  . simp only[oI]at h'
    obtain⟨fv,_,nx,_,h'⟩:=h';rw[qj3 h']
  . simp only[oI]at h'
    obtain⟨p,_,h'⟩:=h';split at h'
    . simp only[oI]at h'
      obtain⟨fv,_,nx,_,h'⟩:=h';rw[qj3 h']
    . cases h'
 | .scope y,a,s,x,a',s',h=>qbn y h
 | .goto _,_,_,_,_,_,h=>by cases h
 | .refuse _,_,_,_,_,_,h=>by cases h
theorem qma {ρ:Rho} {s:St} {w:World} (hR:Rel E w0 ρ s w) {l:Nat} {st:Nat} {pend:Option Code} {tmps:Tr V} {n:Nat} {params:List Nat} {assign body:Code} (h:s.heap.get l=some (.loop st pend tmps n params assign body)) {cl sh sz:Nat} (hρ:ρ l=some (cl,sh,sz)) :
 sh=0/\∃r,w.heap[cl]?=some (.loop r)/\LoopRel ρ st pend tmps n params assign body r:=by
 obtain⟨cr,sz',r,hρ',hB,hw,hm⟩:=hR.obj _ _ h;rw[hρ]at hρ'; simp only[oS,pM]at hρ'; obtain⟨rfl,rfl,rfl⟩:=hρ';exact⟨rfl,r,hw,hm⟩
theorem qjl {ρ:Rho} {s:St} {w:World} (hR:Rel E w0 ρ s w) {l:Nat} {st st':Nat} {pend pend':Option Code} {tmps:Tr V} {n:Nat} {params:List Nat} {assign body:Code} (h:s.heap.get l=some (.loop st pend tmps n params assign body)) {cl sh sz:Nat} (hρ:ρ l=some (cl,sh,sz))
 {r r':Loop} (hw:w.heap[cl]?=some (.loop r)) (hm:LoopRel ρ st' pend' tmps n params assign body r') :
 Rel E w0 ρ (setO (s.note l 0 big false) l (.loop st' pend' tmps n params assign body)) (w.putObj cl (.loop r')):=by
 have hu:=qhh w (.loop r') hw;obtain⟨cr,sz',r0,hρ',hB,hw',_⟩:=hR.obj _ _ h;rw[hρ]at hρ'; simp only[oS,pM]at hρ'; obtain⟨rfl,rfl,rfl⟩:=hρ';rw[setO_eq];have hR2:=(hR.note l 0 big false).note l 0 big true;have hb2:((s.note l 0 big false).note l 0 big true).heap.get l=some (.loop st pend tmps n params assign body):=by rw[qam,qam]; exact h
 exact hR2.write hb2 rfl hρ hu ⟨cl,sz,r',hρ,hB,hu.hit,hm⟩
theorem loopSt_busy {r:Loop} (h:Nat.beq (loopSt r.state) 2=false):r.state≠.busy:=fun e=>by rw[e]at h; cases h
theorem loopSt_ready {r:Loop} (h:loopSt r.state=0):r.state=.ready:=by
 cases hs:r.state<;>rw[hs]at h<;>first|rfl|(simp[loopSt]at h; done)
theorem endLoop_sim {rd:Option Nat} {ρ0 ρ:Rho} {s:St} {w:World} {a:Ac} {ca:Act} (hle:ρ0.le ρ) (hR:Rel E w0 ρ s w) (hA:ARel ρ a ca) {l cl sh sz:Nat} (hρ:ρ l=some (cl,sh,sz)) {x:X} {a':Ac} {s':St} (h:endLoop l a s=some (x,a',s')) (v:Value) :
 rangePost (qbb rd) 0 P cl (XSim E w0 ρ0 a' s' x) ca (.returned v) w:=by
 unfold endLoop at h;simp only[oI,Prod.exists]at h;obtain⟨o,s2,hg,h⟩:=h;obtain⟨hb,rfl⟩:=qci hg;cases o<;>simp only[reduceCtorEq]at h;rename_i st pend tmps n params assign body;obtain⟨_,r,hw,hm⟩:=qma hR hb hρ;cases hst:Nat.beq st 2 with
 | true=>rw[hst]at h; cases h
 | false=>
 rw[hst]at h;simp only[cF]at h;have hend:(Instr.endLoop cl).run P w=.ok pend (w.putObj cl (.loop {r with state:=.exhausted})):=(run_endLoop (P:=P) hw (loopSt_busy (by rw[hm.st]; exact hst))).trans (congrArg (fun p=>Result.ok p _) hm.pend)
 have hR':Rel E w0 ρ (setO (s.note l 0 big false) l (.loop 3 pend tmps n params assign body)) (w.putObj cl (.loop {r with state:=.exhausted})):=
  qjl hR hb hρ hw ⟨rfl,hm.pend,hm.n,hm.tmp,hm.params,hm.assign,hm.body⟩
 refine⟨_,_,hend,?_⟩;split at h<;>simp only[oS,pM,reduceCtorEq]at h
 . obtain⟨rfl,rfl,rfl⟩:=h
   exact⟨rfl,ρ,hle,hA,hR'⟩
 . obtain⟨rfl,rfl,rfl⟩:=h
   exact wpIn_ret ⟨rfl,ρ,hle,hA,hR'⟩
 . obtain⟨rfl,rfl,rfl⟩:=h
   exact wpIn_exit ⟨rfl,ρ,hle,hA,hR'⟩
theorem keepT_get:∀{L:List Nat} {t acc:Tr V} {k:Nat} {v:V},(keepT L t acc).get k=some v->acc.get k=some v\/t.get k=some v
 | [],_,_,_,_,h=>.inl h
 | i::L,t,acc,k,v,h=>by
  rw[keepT]at h;rcases keepT_get h with h|h
  . split at h
    . rename_i u hu
      rw[Tr.get_set]at h;by_cases e:k=i
      . rw[iP e]at h
        rw[e,hu,h];exact .inr rfl
      . rw[iN e]at h; exact .inl h
    . exact .inl h
  . exact .inr h
theorem keptT_get {ps:List Nat} {assign body:Code} {t:Tr V} {k:Nat} {v:V} (h:(qer ps assign body t).get k=some v):t.get k=some v:=by
 rcases keepT_get h with h|h
 . rw[Tr.get_nil]at h; cases h
 . exact h
theorem qj4 (hE:EnvOk P E) (hs:EVSim P E self) {rd:Option Nat} {ρ0 ρ:Rho} {s:St} {w:World} {a:Ac} {ca:Act} {fv:V} {cf:Value} {l cl sh sz:Nat} (hle:ρ0.le ρ) (hR:Rel E w0 ρ s w) (hA:ARel ρ a ca) (hf:VRel ρ fv cf) (hρ:ρ l=some (cl,sh,sz)) {nx:Nx} (hc:qge E fv [.yield l] s=some nx)
 {x:X} {a':Ac} {s':St} (h:rangeCall self l a nx=some (x,a',s')) :
 ∃d f args,(∀(g:Operand) (e:Operand->Value),e g=cf->(∀v,e (.const v)=v)->(resolve e (Go.rangeCall g cl) 0).run P w=.ok d w)/\(invoke d.target d.args).run P w=.ok (.enter f args) w/\CallsIn (qbb rd) 0 P f args w (rangePost (qbb rd) 0 P cl (XSim E w0 ρ0 a' s' x) ca):=by
 have hsim:=callV_sim (P:=P) (cargs:=#[.func (.yield cl) #[] #[]]) hE hR hf (.cons (.yield hρ) .nil) hc;cases nx<;>simp only[rangeCall,reduceCtorEq]at h;rename_i f args s1;simp only[oI,Prod.exists]at h;obtain⟨e,s2,he,h⟩:=h;obtain⟨cargs,hrun,hv,hR'⟩:=hsim;unfold qge at hc;cases hf<;>try (simp only[reduceCtorEq]at hc; done)
 case yield=>simp only[oS,reduceCtorEq]at hc
 rename_i fn fx fy cx cy hx hy;refine⟨{target:=.fn fn cy,args:=cx++#[.func (.yield cl) #[] #[]]},f,cargs,fun g e' hg hcst=>?_,hrun,callsAt rd _ ((hs.call w0 ρ _ w _ _ cargs _ _ hR' hv he).mono fun ce w' hce=>?_)⟩
 . simp only[resolve,hg]
   rw[show Array.map e' #[Operand.const (Value.func (Fn.yield cl) #[] #[])]=#[Value.func (Fn.yield cl) #[] #[]] by simp[hcst]];rfl
 . cases e with
   | ret v=>
    obtain⟨ρ',cv,rfl,hle',_,hR2⟩:=hce;exact endLoop_sim (Rho.le_trans hle hle') hR2 (hA.mono hle') (hle' _ _ hρ) h cv
   | pan v=>
    obtain⟨ρ',cv,rfl,hle',hcv,hR2⟩:=hce;simp only[qh2,oS,pM]at h;obtain⟨rfl,rfl,rfl⟩:=h;exact⟨ρ',cv,rfl,Rho.le_trans hle hle',hcv,hA.mono hle',hR2⟩
theorem rangeC_sim (hE:EnvOk P E) (hs:EVSim P E self) {rd:Option Nat} {f:Operand} {ps:Array Tmp} {assign body:Code} {ρ:Rho} {s:St} {w:World} {a:Ac} {ca:Act} {x:X} {a':Ac} {s':St} (hR:Rel E w0 ρ s w) (hA:ARel ρ a ca) (hrd:Rnd ρ a.round rd)
 (h:qfc E f ps.toList assign body self a s=some (x,a',s')):(Code.rangeFunc f ps assign body).wpIn (qbb rd) 0 P (XSim E w0 ρ a' s' x) ca w:=by
 refine wpIn_rangeFunc fun fn _=>?_;obtain⟨tm,nn,df,ard⟩:=a;unfold qfc at h;cases ard with
 | none=>
  have hrd':rd=none:=hrd;subst hrd';simp only[oI]at h;obtain⟨fv,hfv,nx,hnx,h⟩:=h;have hR1:=hR.new .defb (.deferred (some [])) 0 ⟨w.heap.size,0,Rho.add_same,hR.newBlock,World.alloc_heap_new w _⟩;have hle1:ρ.le (ρ.add s.next (w.heap.size,0,0)):=Rho.add_le hR.fresh;have hs1:(nw s .defb).next=s.next+1:=rfl
  have hfresh1:=hR1.fresh;rw[hs1]at hfresh1;have hle2:(ρ.add s.next (w.heap.size,0,0)).le ((ρ.add s.next (w.heap.size,0,0)).add (s.next+1) (w.heap.size+1,0,0)):=Rho.add_le hfresh1;have hsz1:(w.heap.push (Obj.deferred (some []))).size=w.heap.size+1:=by simp
  let r:Loop:={state:=.ready,pending:=none,fn:=fn,tmps:=ca.tmps,params:=ps,assign:=assign,body:=body,defers:=w.heap.size}
  have hR2:=hR1.new (.loop 0 none (qer ps.toList assign body tm) nn ps.toList assign body) (.loop r) 0 ⟨w.heap.size+1,0,r,by
   rw[hs1]; show((ρ.add s.next (w.heap.size,0,0)).add (s.next+1) ((w.heap.push (Obj.deferred (some []))).size,0,0)) (s.next+1)=_; rw[hsz1]; exact Rho.add_same,by
   have:=hR1.newBlock; rw[hsz1]at this; exact this,by
   show((w.heap.push (Obj.deferred (some []))).push (Obj.loop r))[w.heap.size+1]?=_
   rw[Array.getElem?_push,iP hsz1.symm],rfl,rfl,hA.n,fun t v ht=>(hA.tmp t v (keptT_get ht)).mono (Rho.le_trans hle1 (by
    rw[hs1]; show(ρ.add s.next (w.heap.size,0,0)).le ((ρ.add s.next (w.heap.size,0,0)).add (s.next+1) ((w.heap.push (Obj.deferred (some []))).size,0,0)); rw[hsz1]; exact hle2)),rfl,rfl,rfl⟩
  rw[hs1]at hR2
  have hR2':Rel E w0 ((ρ.add s.next (w.heap.size,0,0)).add (s.next+1) (w.heap.size+1,0,0)) (nw (nw s .defb) (.loop 0 none (qer ps.toList assign body tm) nn ps.toList assign body)) ((w.alloc (.deferred (some []))).alloc (.loop r)):=by
   rw[<- hsz1]; exact hR2
  have hle:=Rho.le_trans hle1 hle2
  have hA2:ARel ((ρ.add s.next (w.heap.size,0,0)).add (s.next+1) (w.heap.size+1,0,0)) {tmps:=tm,n:=nn,defers:={mark:=some s.next,f:=.func 0,captured:=[],args:=[]}::df,round:=none} {ca with defers:=[{target:=.collected w.heap.size,args:=#[]}]++ca.defers}:=
   ⟨hA.n,fun t v ht=>(hA.tmp t v ht).mono hle,.cons ⟨fun e=>by simp at e,fun r' e=>by
    simp only[oS]at e; subst e
    exact⟨w.heap.size,0,0,hle2 _ _ Rho.add_same,rfl⟩⟩ (hA.defers.mono hle)⟩
  obtain⟨d,g,args,hres,hinv,hcall⟩:=qj4 (P:=P) (rd:=none) hE hs hle hR2' hA2 ((qa7 hR hA hfv).mono hle) Rho.add_same hnx h;exact⟨w.heap.size+1,_,_,d,_,g,args,_,run_enterLoop_outer fn ca.tmps ps assign body,hres f _ rfl (fun _=>rfl),fun _ _=>trivial,hinv,qi3 none,hcall⟩
 | some l0=>
  obtain⟨cl,sh,sz,hρ,hrd'⟩:=hrd;subst hrd';simp only[oI,Prod.exists]at h;obtain⟨o,s2,hg,h⟩:=h;obtain⟨hb,rfl⟩:=qci hg;cases o<;>simp only[reduceCtorEq]at h;simp only[oI]at h;obtain⟨fv,hfv,nx,hnx,h⟩:=h;obtain⟨_,r0,hw,hm⟩:=qma hR hb hρ;have hRn:=hR.note l0 0 big false
  let r:Loop:={state:=.ready,pending:=none,fn:=fn,tmps:=ca.tmps,params:=ps,assign:=assign,body:=body,defers:=r0.defers}
  have hle:ρ.le (ρ.add (s.note l0 0 big false).next (w.heap.size,0,0)):=Rho.add_le hRn.fresh;have hR2:=hRn.new (.loop 0 none (qer ps.toList assign body tm) nn ps.toList assign body) (.loop r) 0 ⟨w.heap.size,0,r,Rho.add_same,hR.newBlock,World.alloc_heap_new w _,rfl,rfl,hA.n,fun t v ht=>(hA.tmp t v (keptT_get ht)).mono hle,rfl,rfl,rfl⟩;have hA2:ARel (ρ.add (s.note l0 0 big false).next (w.heap.size,0,0)) {tmps:=tm,n:=nn,defers:=df,round:=some l0} {ca with defers:=[]++ca.defers}:=⟨hA.n,fun t v ht=>(hA.tmp t v ht).mono hle,hA.defers.mono hle⟩
  obtain⟨d,g,args,hres,hinv,hcall⟩:=qj4 (P:=P) (rd:=some cl) hE hs hle hR2 hA2 ((qa7 hR hA hfv).mono hle) Rho.add_same hnx h;exact⟨w.heap.size,_,_,d,_,g,args,_,run_enterLoop_inner hw fn ca.tmps ps assign body,hres f _ rfl (fun _=>rfl),fun _ _=>trivial,hinv,qi3 (some cl),hcall⟩
theorem qdc {b:Frame} {a:Act} {k:List Item} {cs:List Frame} {w:World} {c:Code} :
 step P (lone (b.atR a (.code (.scope c)::k)) cs w)=.next (lone (b.atR a (.code c::.inScope c::k)) cs w):=
 step_lone_go (by simp[stepG,stepG.exec,Frame.atR])
theorem stepR_inScope {b:Frame} {a:Act} {k:List Item} {cs:List Frame} {w:World} {c:Code}:step P (lone (b.atR a (.inScope c::k)) cs w)=.next (lone (b.atR a k) cs w):=
 step_lone_go (by simp[stepG,stepG.exec,Frame.atR])
theorem wpIn_scope {F:Fence} {n:Nat} {c:Code} {Q:Exit->Act->World->Prop} {a:Act} {w:World} (h:c.wpIn F n P Q a w) (hno:∀l a w,¬Q (.goto l) a w):(Code.scope c).wpIn F n P Q a w:=by
 intro b k cs hro hb hr;have h0:(lone (b.atR a (.code (.scope c)::k)) cs w).fenced P F:=fenced_calm hb hr rfl;obtain⟨e,a₁,w₁,hq,harr⟩:=h b (.inScope c::k) cs hro hb hr;cases e with
 | normal=>exact⟨.normal,a₁,w₁,hq,.head h0 qdc (StepsIn.trans harr (.one (fenced_calm hb hr rfl) stepR_inScope))⟩
 | exit id=>
  have hx:exitTo id (.inScope c::k)=exitTo id k:=by simp[exitTo]
  exact⟨_,a₁,w₁,hq,fun k' hk=>.head h0 qdc (harr.1 k' (by rw[hx]; exact hk)),
   fun hr' hk=>let ⟨k₁,h1,h2⟩:=harr.2 hr' (by rw[hx]; exact hk); ⟨k₁,h1,.head h0 qdc h2⟩⟩
 | goto l=>exact(hno l _ _ hq).elim
 | ret=>exact⟨_,a₁,w₁,hq,.of_steps (.one h0 qdc) harr⟩
 | panic ch=>exact⟨_,a₁,w₁,hq,.of_steps (.one h0 qdc) harr⟩
 | outgrown=>exact⟨_,a₁,w₁,hq,.of_steps (.one h0 qdc) harr⟩
theorem qcx (hE:EnvOk P E) (hs:EVSim P E self) (hl:EVLoc self) {rd:Option Nat}:∀(c:Code) {ρ:Rho} {s:St} {w:World} {a:Ac} {ca:Act} {x:X} {a':Ac} {s':St},Rel E w0 ρ s w->ARel ρ a ca->Rnd ρ a.round rd->(qd7 E c).run self a s=some (x,a',s')->
 c.wpIn (qbb rd) 0 P (XSim E w0 ρ a' s' x) ca w
 | .skip,ρ,s,w,a,ca,x,a',s',hR,hA,hrd,h=>by
  have h':some (X.norm,a,s)=some (x,a',s'):=h;simp only[oS,pM]at h';obtain⟨rfl,rfl,rfl⟩:=h';exact wpIn_skip ⟨rfl,ρ,Rho.le_refl ρ,hA,hR⟩
 | .label l,ρ,s,w,a,ca,x,a',s',hR,hA,hrd,h=>by
  have h':some (X.norm,a,s)=some (x,a',s'):=h;simp only[oS,pM]at h';obtain⟨rfl,rfl,rfl⟩:=h';exact wpIn_label ⟨rfl,ρ,Rho.le_refl ρ,hA,hR⟩
 | .exit id,ρ,s,w,a,ca,x,a',s',hR,hA,hrd,h=>by
  have h':some (X.exit id,a,s)=some (x,a',s'):=h;simp only[oS,pM]at h';obtain⟨rfl,rfl,rfl⟩:=h';exact wpIn_exit ⟨rfl,ρ,Rho.le_refl ρ,hA,hR⟩
 | .ret,ρ,s,w,a,ca,x,a',s',hR,hA,hrd,h=>by
  have h':some (X.ret,a,s)=some (x,a',s'):=h;simp only[oS,pM]at h';obtain⟨rfl,rfl,rfl⟩:=h';exact wpIn_ret ⟨rfl,ρ,Rho.le_refl ρ,hA,hR⟩
 | .region id ops false,ρ,s,w,a,ca,x,a',s',hR,hA,hrd,h=>by
  have h':(opsL E ops ops.toList).run self a s=some (x,a',s'):=h;have:=opsL_sim (P:=P) (ops:=ops) hE hs ops.toList 0 (fun j o hj=>by simpa using hj) (Rho.le_refl ρ) hR hA hrd.none h';rw[Array.length_toList,<- List.range_eq_range']at this;exact wpIn_region this
 | .region id ops true,ρ,s,w,a,ca,x,a',s',hR,hA,hrd,h=>drawn_sim hE hs hl hR hA h
 | .seq y z,ρ,s,w,a,ca,x,a',s',hR,hA,hrd,h=>by
  have h':((qd7 E y).run self a s).bind (seqOn (qd7 E z) self)=some (x,a',s'):=h;simp only[oI,Prod.exists]at h';obtain⟨x1,a1,s1,h1,h2⟩:=h';refine wpIn_seq (wpIn_mono (qcx hE hs hl y hR hA hrd h1) fun e ca1 w1 hx=>?_);cases x1 with
  | norm=>
   obtain⟨rfl,ρ1,hle,hA1,hR1⟩:=hx;have h2':(qd7 E z).run self a1 s1=some (x,a',s'):=h2;exact wpIn_mono (qcx hE hs hl z hR1 hA1 (by rw[qbn y h1]; exact hrd.mono hle) h2') fun _ _ _ h=>h.mono hle
  | exit id=>
   have h2':some (X.exit id,a1,s1)=some (x,a',s'):=h2;simp only[oS,pM]at h2';obtain⟨rfl,rfl,rfl⟩:=h2';have he:=hx.1;subst he;exact hx
  | ret=>
   have h2':some (X.ret,a1,s1)=some (x,a',s'):=h2;simp only[oS,pM]at h2';obtain⟨rfl,rfl,rfl⟩:=h2';have he:=hx.1;subst he;exact hx
  | pan v=>
   have h2':some (X.pan v,a1,s1)=some (x,a',s'):=h2;simp only[oS,pM]at h2';obtain⟨rfl,rfl,rfl⟩:=h2';obtain⟨ρ1,cv,rfl,hrest⟩:=hx;exact⟨ρ1,cv,rfl,hrest⟩
 | .cond c y z,ρ,s,w,a,ca,x,a',s',hR,hA,hrd,h=>by
  have h':condC (evF E c) (qd7 E y) (qd7 E z) self a s=some (x,a',s'):=h;unfold condC at h';simp only[oI]at h';obtain⟨v,hv,h'⟩:=h';have hr:=qa7 hR hA (x:=c) hv;cases v<;>simp only[reduceCtorEq]at h';rename_i b;generalize hc:ca.eval c=cc at hr;cases hr;cases b with
  | true=>exact wpIn_cond_true hc (qcx hE hs hl y hR hA hrd h')
  | false=>exact wpIn_cond_false hc (qcx hE hs hl z hR hA hrd h')
 | .block id y,ρ,s,w,a,ca,x,a',s',hR,hA,hrd,h=>by
  have h':((qd7 E y).run self a s).bind (qlj id)=some (x,a',s'):=h;simp only[oI,Prod.exists]at h';obtain⟨x1,a1,s1,h1,h2⟩:=h';refine wpIn_block (wpIn_mono (qcx hE hs hl y hR hA hrd h1) fun e ca1 w1 hx=>?_);cases x1 with
  | norm=>
   have h2':some (X.norm,a1,s1)=some (x,a',s'):=h2;simp only[oS,pM]at h2';obtain⟨rfl,rfl,rfl⟩:=h2';have he:=hx.1;subst he;exact hx
  | exit id'=>
   have h2':some (bif Nat.beq id' id then X.norm else X.exit id',a1,s1)=some (x,a',s'):=h2;simp only[oS,pM]at h2';obtain⟨rfl,rfl,rfl⟩:=h2';obtain⟨rfl,hrest⟩:=hx;simp only[Exit.inBlock];by_cases hid:id'=id
   . subst hid
     rw[iP rfl,Nat.beq_refl];exact⟨rfl,hrest⟩
   . rw[iN hid]
     have:Nat.beq id' id=false:=by
      cases hb:Nat.beq id' id with
      | false=>rfl
      | true=>exact absurd (Nat.eq_of_beq_eq_true hb) hid
     rw[this];exact⟨rfl,hrest⟩
  | ret=>
   have h2':some (X.ret,a1,s1)=some (x,a',s'):=h2;simp only[oS,pM]at h2';obtain⟨rfl,rfl,rfl⟩:=h2';have he:=hx.1;subst he;exact hx
  | pan v=>
   have h2':some (X.pan v,a1,s1)=some (x,a',s'):=h2;simp only[oS,pM]at h2';obtain⟨rfl,rfl,rfl⟩:=h2';obtain⟨ρ1,cv,rfl,hrest⟩:=hx;exact⟨ρ1,cv,rfl,hrest⟩
 | .loop y,ρ,s,w,a,ca,x,a',s',hR,hA,hrd,h=>by
  have key:∀(n:Nat) {ρ1:Rho} {s:St} {w:World} {a:Ac} {ca:Act},ρ.le ρ1->Rel E w0 ρ1 s w->ARel ρ1 a ca->Rnd ρ1 a.round rd->qjk (qd7 E y) n self a s=some (x,a',s')->Code.roundsIn (qbb rd) 0 P y (XSim E w0 ρ a' s' x) n ca w:=by
   intro n
   induction n with
   | zero=>intro ρ1 s w a ca _ _ _ _ h; cases h
   | succ n ih=>
    intro ρ1 s w a ca hle hR hA hrd h;have h':((qd7 E y).run self a s).bind (loopOn (qjk (qd7 E y) n) self)=some (x,a',s'):=h;simp only[oI,Prod.exists]at h';obtain⟨x1,a1,s1,h1,h2⟩:=h';rw[roundsIn_succ];refine wpIn_mono (qcx hE hs hl y hR hA hrd h1) fun e ca1 w1 hx=>?_;cases x1 with
    | norm=>
     obtain⟨rfl,ρ2,hle2,hA1,hR1⟩:=hx;exact ih (Rho.le_trans hle hle2) hR1 hA1 (by rw[qbn y h1]; exact hrd.mono hle2) h2
    | exit id=>
     have h2':some (X.exit id,a1,s1)=some (x,a',s'):=h2;simp only[oS,pM]at h2';obtain⟨rfl,rfl,rfl⟩:=h2';have hx':=hx.mono hle;have he:=hx.1;subst he;exact hx'
    | ret=>
     have h2':some (X.ret,a1,s1)=some (x,a',s'):=h2;simp only[oS,pM]at h2';obtain⟨rfl,rfl,rfl⟩:=h2';have hx':=hx.mono hle;have he:=hx.1;subst he;exact hx'
    | pan v=>
     have h2':some (X.pan v,a1,s1)=some (x,a',s'):=h2;simp only[oS,pM]at h2';obtain⟨rfl,rfl,rfl⟩:=h2';obtain⟨ρ2,cv,rfl,hle2,hrest⟩:=hx;exact⟨ρ2,cv,rfl,Rho.le_trans hle hle2,hrest⟩
  rw[show qd7 E (.loop y)=⟨qjk (qd7 E y) qa3⟩from rfl]at h;generalize qa3=n at h;exact wpIn_loop_rounds n (key n (Rho.le_refl ρ) hR hA hrd h)
 | .rangeFunc f ps y z,ρ,s,w,a,ca,x,a',s',hR,hA,hrd,h=>rangeC_sim hE hs hR hA hrd h
 | .scope y,ρ,s,w,a,ca,x,a',s',hR,hA,hrd,h=>wpIn_scope (qcx hE hs hl y hR hA hrd h) fun l a1 w1 hx=>by
  cases x with
  | norm=>exact absurd hx.1 (by simp)
  | exit id=>exact absurd hx.1 (by simp)
  | ret=>exact absurd hx.1 (by simp)
  | pan v=>obtain⟨_,_,he,_⟩:=hx; exact absurd he (by simp)
 | .goto _,_,_,_,_,_,_,_,_,_,_,_,h=>by cases h
 | .refuse _,_,_,_,_,_,_,_,_,_,_,_,h=>by cases h
def resF (tmps:Array Value):ResultVar->Sem Value
 | .tmp t=>pure (tmps.getD t undef)
 | .cell x t=>do loadVar t (<- asAddr (tmps.getD x undef))
theorem results_eq (fn:Func) (tmps:Array Value):results fn tmps=(fn.results.mapM (resF tmps) >>= fun vs=>pure (if h:vs.size=1 then vs[0]else .tuple vs)):=by
 unfold results
 congr 1
theorem qgu (hE:EnvOk P E) {ρ:Rho} {w:World} {a:Ac} {ca:Act} (hA:ARel ρ a ca):∀(l:List ResultVar) {s s':St} {vs:List V},Rel E w0 ρ s w->qay E a l s=some (vs,s')->
 ∃cvs,(l.mapM (resF ca.tmps)).run P w=.ok cvs w/\VRels ρ vs cvs/\Same s s'
 | [],s,s',vs,hR,h=>by
  simp only[qay,oS,pM]at h;obtain⟨rfl,rfl⟩:=h;exact⟨[],rfl,.nil,Same.refl _⟩
 | .tmp t::l,s,s',vs,hR,h=>by
  simp only[qay,oI,oS,pM,Prod.exists]at h;obtain⟨v,hv,q1,q2,hq,rfl,rfl⟩:=h;obtain⟨cvs,h1,h2,h3⟩:=qgu hE hA l hR hq;refine⟨ca.tmps.getD t undef::cvs,?_,.cons (qa7 hR hA (x:=.tmp t) hv) h2,h3⟩;rw[List.mapM_cons];simp only[resF];rw[pure_bind,qa0 h1];rfl
 | .cell t ty::l,s,s',vs,hR,h=>by
  simp only[qay,oI]at h;obtain⟨v,hv,h⟩:=h;have hr:=qa7 hR hA (x:=.tmp t) hv;cases v<;>simp only[reduceCtorEq]at h;simp only[oI,oS,pM,Prod.exists]at h;obtain⟨u,s1,hu,q1,q2,hq,rfl,rfl⟩:=h;have hev:ca.eval (.tmp t)=ca.tmps.getD t undef:=rfl;rw[hev]at hr;generalize hc:ca.tmps.getD t undef=cx at hr;cases hr with
  | ptr hρ=>
  obtain⟨cv,hrun,hcv,hsame⟩:=loadV_sim hE hR hu hρ;obtain⟨cvs,h1,h2,h3⟩:=qgu hE hA l (hR.same hsame) hq;refine⟨cv::cvs,?_,.cons hcv h2,hsame.trans h3⟩;rw[List.mapM_cons];have hrun':(resF ca.tmps (.cell t ty)).run P w=.ok cv w:=by simp only[resF,hc]; exact hrun
  rw[qa0 hrun',qa0 h1];rfl
theorem qmv (hE:EnvOk P E) {ρ:Rho} {w:World} {a:Ac} {ca:Act} {s s':St} (hA:ARel ρ a ca) (fn:Func) {vs:List V} (hR:Rel E w0 ρ s w) (h:qay E a fn.results.toList s=some (vs,s')) :
 ∃cv,(results fn ca.tmps).run P w=.ok cv w/\VRel ρ (oneOr vs) cv/\Same s s':=by
 obtain⟨cvs,h1,h2,h3⟩:=qgu hE hA fn.results.toList hR h
 have hm:(fn.results.mapM (resF ca.tmps)).run P w=.ok cvs.toArray w:=by
  rw[Array.mapM_eq_mapM_toList];rw[map_eq_pure_bind,qa0 h1];rfl
 refine⟨if h:cvs.toArray.size=1 then cvs.toArray[0]else .tuple cvs.toArray,?_,?_,h3⟩
 . rw[results_eq,qa0 hm]
   rfl
 . match vs,cvs,h2 with
   | [],_,.nil=>exact .tuple .nil
   | [v],_,.cons hv .nil=>exact hv
   | v::u::l,c1::c2::cl,.cons hv (.cons hu ht)=>
    have:¬((c1::c2::cl).toArray.size=1):=by simp
    rw[dif_neg this];exact .tuple (.cons hv (.cons hu ht))
def MdRel (ρ:Rho):Md->FrameMode->Prop
 | .ret,u=>u=.returning
 | .pan v,u=>∃cv,u=.panicking [{v:=cv,recovered:=false}]/\VRel ρ v cv
 | .got v,u=>∃cv,u=.panicking [{v:=cv,recovered:=true}]/\VRel ρ v cv
theorem MdRel.mono {ρ ρ':Rho} (hle:ρ.le ρ') {m:Md} {u:FrameMode} (h:MdRel ρ m u):MdRel ρ' m u:=by
 cases m with
 | ret=>exact h
 | pan v=>obtain⟨cv,h1,h2⟩:=h; exact⟨cv,h1,h2.mono hle⟩
 | got v=>obtain⟨cv,h1,h2⟩:=h; exact⟨cv,h1,h2.mono hle⟩
theorem MdRel.notRun {ρ:Rho} {m:Md} {u:FrameMode} (h:MdRel ρ m u):u≠.run:=by
 cases m with
 | ret=>rw[show u=.returning from h]; simp
 | pan v=>obtain⟨cv,h1,_⟩:=h; rw[h1]; simp
 | got v=>obtain⟨cv,h1,_⟩:=h; rw[h1]; simp
def MSim (E:Env) (w0:Base) (ρ:Rho) (c₀:Frame) (cs:List Frame) (a':Ac) (m':Md) (s':St) (x:X) (e:Exit) (ca':Act) (cs':List Frame) (w':World):Prop:=
 ∃ρ',ρ.le ρ'/\(∃u,cs'={c₀ with mode:=u}::cs/\MdRel ρ' m' u)/\XSim E w0 ρ' a' s' x e ca' w'
theorem isRecover_spec {o:Oper} (h:qdj o=true):o.guard=none/\∃args ts,o.op=.call {callee:=.builtin .recover,args:=args,argTypes:=ts}:=by
 unfold qdj at h;split at h
 . rename_i h1 h2
   exact⟨h2,_,_,h1⟩
 . cases h
theorem recoverD_sim {ρ:Rho} {m:Md} {u:FrameMode} {c₀:Frame} {cs:List Frame} (hm:MdRel ρ m u) :
 (∃cv u',recoverD ({c₀ with mode:=u}::cs)=some (cv,{c₀ with mode:=u'}::cs)/\VRel ρ (recV m).1 cv/\MdRel ρ (recV m).2 u')\/
 (recoverD ({c₀ with mode:=u}::cs)=none/\VRel ρ (recV m).1 .nilIface/\MdRel ρ (recV m).2 u):=by
 cases m with
 | ret=>
  have hu:u=.returning:=hm;subst hu;exact .inr ⟨rfl,.niliface,rfl⟩
 | pan v=>
  obtain⟨cv,rfl,hv⟩:=hm;exact .inl ⟨cv,.panicking [{v:=cv,recovered:=true}],rfl,hv,cv,rfl,hv⟩
 | got v=>
  obtain⟨cv,rfl,hv⟩:=hm;exact .inr ⟨rfl,.niliface,cv,rfl,hv⟩
theorem opsS_sim (hE:EnvOk P E) (hs:EVSim P E self) {ops:Array Oper} {c₀:Frame} {cs:List Frame}:∀(l:List Oper) (k:Nat),(∀j o,l[j]?=some o->ops[k+j]?=some o)->
 ∀{ρ0 ρ:Rho} {s:St} {w:World} {a:Ac} {ca:Act} {m:Md} {u:FrameMode} {x:X} {a':Ac} {m':Md} {s':St},ρ0.le ρ->Rel E w0 ρ s w->ARel ρ a ca->MdRel ρ m u->opsS E self ops l a m s=some (x,a',m',s')->
  wpOpsS P ops (MSim E w0 ρ0 c₀ cs a' m' s' x) (List.range' k l.length) ca ({c₀ with mode:=u}::cs) w:=by
 intro l
 induction l with
 | nil=>
  intro k _ ρ0 ρ s w a ca m u x a' m' s' hle hR hA hm h;simp only[opsS,oS,pM]at h;obtain⟨rfl,rfl,rfl,rfl⟩:=h;exact⟨ρ,hle,⟨u,rfl,hm⟩,rfl,ρ,Rho.le_refl ρ,hA,hR⟩
 | cons o l ih=>
  intro k hops ρ0 ρ s w a ca m u x a' m' s' hle hR hA hm h;have hk:ops[k]?=some o:=by simpa using hops 0 o (by simp)
  have hops':∀j o',l[j]?=some o'->ops[k+1+j]?=some o':=fun j o' hj=>by
   have:=hops (j+1) o' (by simpa using hj);rw[show k+1+j=k+(j+1) by omega]; exact this
  simp only[List.length_cons,List.range'_succ,wpOpsS,hk];simp only[opsS]at h;cases hrec:qdj o with
  | true=>
   rw[hrec]at h;simp only[cT,oI]at h;obtain⟨a1,ha1,h⟩:=h;obtain⟨hg,args,ts,hop⟩:=isRecover_spec hrec;have hw:Region.wanted o (yielded ops ca.tmps)=true:=by unfold Region.wanted; rw[hg]
   have hex:(execOp ca.eval o).run P w=.ok .recover w:=by simp only[execOp,hop]; rfl
   rw[hw];simp only[if_true,hex];rcases recoverD_sim (c₀:=c₀) (cs:=cs) hm with⟨cv,u',hr,hv,hm'⟩|⟨hr,hv,hm'⟩
   . simp only[hr]
     exact ih (k+1) hops' hle hR (qeu hA ha1 hv).1 hm' h
   . simp only[hr]
     exact ih (k+1) hops' hle hR (qeu hA ha1 hv).1 hm' h
  | false=>
   rw[hrec]at h;simp only[cF,oI,Prod.exists]at h;obtain⟨x1,a1,s1,h1,h2⟩:=h
   have hone:∀{ρ':Rho} {ca':Act} {w':World},ρ.le ρ'->ARel ρ' a1 ca'->Rel E w0 ρ' s1 w'->x1=.norm->wpOpsS P ops (MSim E w0 ρ0 c₀ cs a' m' s' x) (List.range' (k+1) l.length) ca' ({c₀ with mode:=u}::cs) w':=by
    intro ρ' ca' w' hle' hA' hR' hx;subst hx;exact ih (k+1) hops' (Rho.le_trans hle hle') hR' hA' (hm.mono hle') h2
   rcases qmm h1 with⟨rfl,v,hmade,hp⟩|⟨rfl,_,hw,d,hd,hp⟩|⟨v,rfl,rfl,hw,hp⟩
   . cases hmade with
     | no hw=>
      rw[qcf hA hw];simp only[Bool.false_eq_true,if_false];exact hone (Rho.le_refl ρ) (qeu hA hp qfg).1 hR rfl
     | val hw hnx=>
      rw[qcf hA hw];simp only[if_true];obtain⟨ρ',cv,w',hrun,hle',hv,hR'⟩:=qdr (P:=P) hE hR hA o hnx;rcases hrun with hrun|⟨hrun,rfl⟩
      . simp only[hrun]
        exact hone hle' (qeu (hA.mono hle') hp hv).1 hR' rfl
      . simp only[hrun]
        exact hone hle' (qeu (hA.mono hle') hp hv).1 hR' rfl
     | call hw hnx hcall=>
      rw[qcf hA hw];simp only[if_true];obtain⟨cargs,hrun,hv,hR'⟩:=qdr (P:=P) hE hR hA o hnx;simp only[hrun];show Calls P _ cargs w _;refine(hs.call w0 ρ _ w _ _ cargs _ _ hR' hv hcall).mono fun ce w' hce=>?_;obtain⟨ρ',cv,rfl,hle',hcv,hR2⟩:=hce;exact hone hle' (qeu (hA.mono hle') hp hcv).1 hR2 rfl
     | round hw hnx hcall=>cases hcall
   . rw[qcf hA hw]
     simp only[if_true];obtain⟨_,cd,hrun,hdr,hR'⟩:=qdr (P:=P) hE hR hA o hd;simp only[hrun];have hA2:ARel ρ {a with defers:=d::a.defers} {ca with defers:=cd::ca.defers}:=⟨hA.n,hA.tmp,.cons hdr hA.defers⟩
     exact hone (Rho.le_refl ρ) (qeu hA2 hp qfg).1 hR' rfl
   . have h2':some (X.pan v,a1,m,s1)=some (x,a',m',s'):=h2
     simp only[oS,pM]at h2';obtain⟨rfl,rfl,rfl,rfl⟩:=h2';rw[qcf hA hw];simp only[if_true];rcases hp with hp|⟨f,args,s2,hp,hcall⟩|⟨l,args,s2,hp,hcall⟩
     . obtain⟨cv,hrun,hv,hR'⟩:=qdr (P:=P) hE hR hA o hp
       simp only[hrun];exact⟨ρ,hle,⟨u,rfl,hm⟩,ρ,cv,rfl,Rho.le_refl ρ,hv,hA,hR'⟩
     . obtain⟨cargs,hrun,hv,hR'⟩:=qdr (P:=P) hE hR hA o hp
       simp only[hrun];show Calls P _ cargs w _;refine(hs.call w0 ρ _ w _ _ cargs _ _ hR' hv hcall).mono fun ce w' hce=>?_;obtain⟨ρ',cv,rfl,hle',hcv,hR2⟩:=hce;exact⟨ρ',Rho.le_trans hle hle',⟨u,rfl,hm.mono hle'⟩,ρ',cv,rfl,Rho.le_refl ρ',hcv,hA.mono hle',hR2⟩
     . cases hcall
theorem qjo {ops:Array Oper}:∀(l:List Oper) {a:Ac} {m:Md} {s:St} {x:X} {a':Ac} {m':Md} {s':St},opsS E self ops l a m s=some (x,a',m',s')->a'.round=a.round
 | [],a,m,s,x,a',m',s',h=>by
  simp only[opsS,oS,pM]at h;rw[h.2.1]
 | o::l,a,m,s,x,a',m',s',h=>by
  simp only[opsS]at h;cases hr:qdj o with
  | true=>
   rw[hr]at h;simp only[cT,oI]at h;obtain⟨a1,ha1,h⟩:=h;exact(qjo l h).trans (qjr ha1)
  | false=>
   rw[hr]at h;simp only[cF,oI,Prod.exists]at h;obtain⟨x1,a1,s1,h1,h2⟩:=h;have r1:=qj1 h1;cases x1 with
   | norm=>exact(qjo l h2).trans r1
   | _=>simp only[oS,pM]at h2; rw[<- h2.2.1]; exact r1
theorem qip:∀(d:Nat) (c:Code) {a:Ac} {m:Md} {s:St} {x:X} {a':Ac} {m':Md} {s':St},evS E self d c a m s=some (x,a',m',s')->a'.round=a.round
 | 0,_,_,_,_,_,_,_,_,h=>by cases h
 | d+1,c,a,m,s,x,a',m',s',h=>by
  have other:(((qd7 E c).run self a s).bind fun(x,a,s)=>some (x,a,m,s))=some (x,a',m',s')->a'.round=a.round:=fun h=>by
   simp only[oI,Prod.exists,oS,pM]at h;obtain⟨x1,a1,s1,h1,rfl,rfl,rfl,rfl⟩:=h;exact qbn c h1
  cases c<;>try exact other h
  case seq y z=>
   have h':(evS E self d y a m s).bind (fun|(.norm,a,m,s)=>evS E self d z a m s|r=>some r)=some (x,a',m',s'):=h;simp only[oI,Prod.exists]at h';obtain⟨x1,a1,m1,s1,h1,h2⟩:=h';have r1:=qip d y h1;cases x1 with
   | norm=>exact(qip d z h2).trans r1
   | _=>simp only[oS,pM]at h2; rw[<- h2.2.1]; exact r1
  case cond c y z=>
   have h':(evO E a c).bind (fun|.bool b=>evS E self d (bif b then y else z) a m s|_=>none)=some (x,a',m',s'):=h;simp only[oI]at h';obtain⟨v,hv,h'⟩:=h';cases v<;>simp only[reduceCtorEq]at h';exact qip d _ h'
  case region id ops draw=>
   cases draw with
   | true=>exact other h
   | false=>exact qjo ops.toList h
theorem evS_sim (hE:EnvOk P E) (hs:EVSim P E self) (hl:EVLoc self) {c₀:Frame} {cs:List Frame}:∀(d:Nat) (c:Code)
 {ρ0 ρ:Rho} {s:St} {w:World} {a:Ac} {ca:Act} {m:Md} {u:FrameMode} {x:X} {a':Ac} {m':Md} {s':St},ρ0.le ρ->Rel E w0 ρ s w->ARel ρ a ca->a.round=none->MdRel ρ m u->evS E self d c a m s=some (x,a',m',s')->
  c.wpS P (MSim E w0 ρ0 c₀ cs a' m' s' x) ca ({c₀ with mode:=u}::cs) w:=by
 intro d
 induction d with
 | zero=>intro c ρ0 ρ s w a ca m u x a' m' s' _ _ _ _ _ h; cases h
 | succ d ih=>
  intro c ρ0 ρ s w a ca m u x a' m' s' hle hR hA hrd hm h
  have other:(((qd7 E c).run self a s).bind fun(x,a,s)=>some (x,a,m,s))=some (x,a',m',s')->c.wpS P (MSim E w0 ρ0 c₀ cs a' m' s' x) ca ({c₀ with mode:=u}::cs) w:=fun h=>by
   simp only[oI,Prod.exists,oS,pM]at h;obtain⟨x1,a1,s1,h1,rfl,rfl,rfl,rfl⟩:=h;refine wpS_of_wp (wp_mono (wpIn_wide.1 (qcx (rd:=none) hE hs hl c hR hA (by rw[hrd]; rfl) h1)) fun e ca' w' hx=>?_)
   have hx':∃ρ',ρ.le ρ'/\XSim E w0 ρ' a1 s1 x1 e ca' w':=by
    cases x1 with
    | norm=>obtain⟨he,ρ',h2,h3,h4⟩:=hx; exact⟨ρ',h2,he,ρ',Rho.le_refl _,h3,h4⟩
    | exit id=>obtain⟨he,ρ',h2,h3,h4⟩:=hx; exact⟨ρ',h2,he,ρ',Rho.le_refl _,h3,h4⟩
    | ret=>obtain⟨he,ρ',h2,h3,h4⟩:=hx; exact⟨ρ',h2,he,ρ',Rho.le_refl _,h3,h4⟩
    | pan v=>obtain⟨ρ',cv,he,h2,h3,h4,h5⟩:=hx; exact⟨ρ',h2,ρ',cv,he,Rho.le_refl _,h3,h4,h5⟩
   obtain⟨ρ',h2,h3⟩:=hx';exact⟨ρ',Rho.le_trans hle h2,⟨u,rfl,hm.mono h2⟩,h3⟩
  cases c<;>try exact other h
  case seq y z=>
   have h':(evS E self d y a m s).bind (fun|(.norm,a,m,s)=>evS E self d z a m s|r=>some r)=some (x,a',m',s'):=h;simp only[oI,Prod.exists]at h';obtain⟨x1,a1,m1,s1,h1,h2⟩:=h';refine wpS_seq fun b k hb hr=>?_;obtain⟨e,ca1,cs1,w1,hq,harr⟩:=ih y (ρ0:=ρ0) hle hR hA hrd hm h1 b k hb hr;refine⟨e,ca1,cs1,w1,?_,harr⟩;obtain⟨ρ1,hle1,⟨u1,rfl,hm1⟩,hx⟩:=hq;cases x1 with
   | norm=>
    obtain⟨rfl,ρ2,hle2,hA2,hR2⟩:=hx;have h2':evS E self d z a1 m1 s1=some (x,a',m',s'):=h2;exact ih z (Rho.le_trans hle1 hle2) hR2 hA2 ((qip d y h1).trans hrd) (hm1.mono hle2) h2'
   | exit id=>
    have h2':some (X.exit id,a1,m1,s1)=some (x,a',m',s'):=h2;simp only[oS,pM]at h2';obtain⟨rfl,rfl,rfl,rfl⟩:=h2';have he:=hx.1;subst he;exact⟨ρ1,hle1,⟨u1,rfl,hm1⟩,hx⟩
   | ret=>
    have h2':some (X.ret,a1,m1,s1)=some (x,a',m',s'):=h2;simp only[oS,pM]at h2';obtain⟨rfl,rfl,rfl,rfl⟩:=h2';have he:=hx.1;subst he;exact⟨ρ1,hle1,⟨u1,rfl,hm1⟩,hx⟩
   | pan v=>
    have h2':some (X.pan v,a1,m1,s1)=some (x,a',m',s'):=h2;simp only[oS,pM]at h2';obtain⟨rfl,rfl,rfl,rfl⟩:=h2';obtain⟨ρ2,cv,rfl,hrest⟩:=hx;exact⟨ρ1,hle1,⟨u1,rfl,hm1⟩,ρ2,cv,rfl,hrest⟩
  case cond c y z=>
   have h':(evO E a c).bind (fun|.bool b=>evS E self d (bif b then y else z) a m s|_=>none)=some (x,a',m',s'):=h;simp only[oI]at h';obtain⟨v,hv,h'⟩:=h';have hr:=qa7 hR hA (x:=c) hv;cases v<;>simp only[reduceCtorEq]at h';rename_i b;generalize hc:ca.eval c=cc at hr;cases hr;refine wpS_cond hc ?_;cases b with
   | true=>exact ih y hle hR hA hrd hm h'
   | false=>exact ih z hle hR hA hrd hm h'
  case region id ops draw=>
   cases draw with
   | true=>exact other h
   | false=>
    have h':opsS E self ops ops.toList a m s=some (x,a',m',s'):=h;have:=opsS_sim (P:=P) (ops:=ops) (c₀:=c₀) (cs:=cs) hE hs ops.toList 0 (fun j o hj=>by simpa using hj) hle hR hA hm h';rw[Array.length_toList,<- List.range_eq_range']at this;exact wpS_region this
theorem qm3 {ρ:Rho} {fn:Func} {args:List V} {cargs:Array Value} (h:VRels ρ args cargs.toList) (hn:args.length<=fn.ntmps) :
 ARel ρ (qi1 fn args) {tmps:=cargs++Array.replicate (fn.ntmps-cargs.size) undef,defers:=[]}:=by
 have hlen:args.length=cargs.size:=by have:=h.length; simpa using this
 refine⟨by simp[qi1]; omega,fun t v ht=>?_,.nil⟩;have ht':(Tr.ofListFrom .nil args 0).get t=some v:=ht;rw[Tr.get_ofList]at ht';obtain⟨cv,h1,h2⟩:=h.get t v ht'
 have hlt:t<cargs.size:=by
  rcases Nat.lt_or_ge t args.length with h'|h'
  . omega
  . rw[List.getElem?_eq_none h']at ht'; cases ht'
 have:(cargs++Array.replicate (fn.ntmps-cargs.size) undef).getD t undef=cv:=by
  rw[Array.getD_eq_getD_getElem?,Array.getElem?_append_left hlt];have h1':cargs[t]?=some cv:=by simpa using h1
  rw[h1']; rfl
 rw[this]; exact h2
theorem qlo {f:FuncId} {fn:Func} {c:Code} {args:Array Value} {u:FrameMode} {w:World} {R:Ending->FrameMode->World->Prop} {n:Nat}
 (hf:P.funcs[f]?=some fn) (hb:fn.body=some c)
 (h:∀(c₀:Frame) (cs:List Frame),c₀.mode=u->c.wpS P (bodyPostS P fn c₀ cs R) {tmps:=args++Array.replicate (fn.ntmps-args.size) undef,defers:=[]} (c₀::cs) w) :
 CallsDIn (qbb none) n P f args u w R:=by
 refine⟨trivial,fun c₀ cs hu _=>?_⟩
 let b:Frame:={(default:Frame)with fn:=f,kind:=.deferred}
 have henter:Frame.enter P f args .deferred=b.at {tmps:=args++Array.replicate (fn.ntmps-args.size) undef,defers:=[]} [.code c]:=by
  simp[Frame.enter,Frame.at,hf,hb,b]
 obtain⟨e,a',cs',w',hq,harr⟩:=h c₀ cs hu b [] rfl rfl;rw[<- henter]at harr;cases e with
 | normal=>
  obtain⟨hd,u',rfl,v,hr,hR⟩:=hq;exact⟨.returned v,u',w',_,hR,comesIn_wide.2 (Steps.trans harr (.one step_end)),rfl,rfl,rfl,hd,fn,hf,hr⟩
 | ret=>
  obtain⟨hd,u',rfl,v,hr,hR⟩:=hq;obtain⟨todo,hs⟩:=harr;exact⟨.returned v,u',w',_,hR,comesIn_wide.2 hs,rfl,rfl,rfl,hd,fn,hf,hr⟩
 | panic chain=>
  obtain⟨hd,u',rfl,hR⟩:=hq;obtain⟨todo,hs⟩:=harr;exact⟨.panicked chain,u',w',_,hR,comesIn_wide.2 hs,rfl,rfl,rfl,hd,fn,hf⟩
 | exit id=>exact hq.elim
 | goto l=>exact hq.elim
 | outgrown=>
  obtain⟨u',hR⟩:=hq;exact⟨.outgrown,u',w',b,hR,comesIn_wide.2 (harr.resolve_left (by simp[b])),rfl,rfl,trivial⟩
theorem qjj (hE:EnvOk P E) (hs:EVSim P E self) (hl:EVLoc self) {fn:Func} {ρ0:Rho} {a:Ac} {ca:Act} {e:En} {s':St}:∀(ds:List AD) {ρ:Rho} {s:St} {w:World} {m:Md} {u:FrameMode} {cds:List Deferred},
 ρ0.le ρ->Rel E w0 ρ s w->ARel ρ a ca->DRels ρ ds cds->MdRel ρ m u->qbk E self fn a ds m s=some (e,s')->LeavesInM (qbb none) 0 P fn ca.tmps (EnSim E w0 ρ0 s' e) cds u w:=by
 intro ds
 induction ds with
 | nil=>
  intro ρ s w m u cds hle hR hA hD hm h;cases hD;cases m with
  | ret=>
   have hu:u=.returning:=hm;subst hu;have h':((qay E a fn.results.toList s).bind fun p=>some (En.ret (oneOr p.1),p.2))=some (e,s'):=h;simp only[oI,oS,pM,Prod.exists]at h';obtain⟨vs,s1,hvs,rfl,rfl⟩:=h';obtain⟨cv,hrun,hv,hsame⟩:=qmv hE hA fn hR hvs;exact⟨cv,hrun,ρ,cv,rfl,hle,hv,hR.same hsame⟩
  | pan v=>
   obtain⟨cv,rfl,hv⟩:=hm;have h':some (En.pan v,s)=some (e,s'):=h;simp only[oS,pM]at h';obtain⟨rfl,rfl⟩:=h';exact⟨ρ,cv,rfl,hle,hv,hR⟩
  | got v=>cases h
 | cons d ds ih=>
  intro ρ s w m u cds hle hR hA hD hm h;cases hD with
  | @cons _ cd _ cds hd hD=>
  simp only[qbk]at h;cases hmk:d.mark with
  | some r=>
   rw[hmk]at h;simp only[oI,Prod.exists]at h;obtain⟨o,s2,hg,h⟩:=h;obtain⟨hb,rfl⟩:=qci hg;cases o<;>simp only[reduceCtorEq]at h;obtain⟨cb,sh,sz,hρ,htar⟩:=hd.mark r hmk;obtain⟨cr,sz',hρ',hB,hw⟩:=hR.obj _ _ hb;rw[hρ]at hρ'; simp only[oS,pM]at hρ'; obtain⟨rfl,rfl,rfl⟩:=hρ';have hR2:=(hR.note r 0 big false).note r 0 big true;have hb2:((s.note r 0 big false).note r 0 big true).heap.get r=some .defb:=by rw[qam,qam]; exact hb
   have hR3:Rel E w0 ρ (setO (s.note r 0 big false) r .dead) (w.putObj cb (.deferred none)):=hR2.write (o':=.dead) hb2 rfl hρ (qhh w (.deferred none) hw) trivial;exact⟨hm.notRun,.inl ⟨cb,_,htar,run_takeDeferred hw,ih hle hR3 hA hD hm h⟩⟩
  | none=>
  rw[hmk]at h;simp only at h;cases hdf:d.f<;>rw[hdf]at h<;>simp only[reduceCtorEq]at h;rename_i f;simp only[oI]at h;obtain⟨g,hg,c,hc,h⟩:=h;cases hble:Nat.ble (d.args++d.captured).length g.ntmps with
  | false=>rw[hble]at h; cases h
  | true=>
  rw[hble]at h;simp only[cT,oI,Prod.exists]at h;obtain⟨x1,a1,m1,s1,hq,h⟩:=h;cases hquiet:(quiet x1&&Nat.beq a1.defers.length 0)with
  | false=>rw[hquiet]at h; cases h
  | true=>
  rw[hquiet]at h;simp only[cT,oI,Prod.exists]at h;obtain⟨vs,s2,hvs,h⟩:=h;simp only[bA]at hquiet;obtain⟨⟨cap,hcap,hcr⟩,hdargs⟩:=hd.call hmk;rw[hdf]at hcap;have hbody:qd9 E f=true:=by unfold qd9; rw[hg]; simp[hc]
  obtain⟨ct,cargs⟩:=cd;simp only at hcap;subst hcap;have hargs:VRels ρ (d.args++d.captured) (cargs++cap).toList:=by simp only[Array.toList_append]; exact hdargs.append hcr
  have hlen:(d.args++d.captured).length<=g.ntmps:=Nat.le_of_ble_eq_true hble;cases hex:E.ext.get f with
  | some kk=>
   exact absurd (hE.noExt f kk hex) (by rw[hbody]; simp)
  | none=>
  refine⟨hm.notRun,.inr ⟨qi3 none,.func f,cap,f,cargs++cap,rfl,by show(callFunc f (cargs++cap)).run P w=_; exact hE.call f hbody hex _ w,fun _ _=>trivial,?_⟩⟩;refine qlo (hE.fns f g hg) hc fun c₀ cs hu=>?_;have hA0:=qm3 (fn:=g) hargs hlen;have hc0:({c₀ with mode:=u}:Frame)=c₀:=by subst hu; rfl
  have:=evS_sim (c₀:=c₀) (cs:=cs) hE hs hl 50 c (Rho.le_refl ρ) hR hA0 rfl hm hq;rw[hc0]at this;intro b k hb hr;obtain⟨e1,ca1,cs1,w1,hq1,harr⟩:=this b k hb hr;refine⟨e1,ca1,cs1,w1,?_,harr⟩;obtain⟨ρ1,hle1,⟨u1,rfl,hm1⟩,hx⟩:=hq1
  have hend:(e1=.normal\/e1=.ret)/\∃ρ2,ρ1.le ρ2/\ARel ρ2 a1 ca1/\Rel E w0 ρ2 s1 w1:=by
   cases x1 with
   | norm=>exact⟨.inl hx.1,hx.2⟩
   | ret=>exact⟨.inr hx.1,hx.2⟩
   | exit id=>simp[quiet]at hquiet
   | pan v=>simp[quiet]at hquiet
  obtain⟨hee,ρ2,hle2,hA2,hR2⟩:=hend
  have hdn:ca1.defers=[]:=by
   have:=hA2.defers.length;have h0:a1.defers.length=0:=Nat.eq_of_beq_eq_true hquiet.2;rw[h0]at this;exact List.length_eq_zero_iff.1 this.symm
  obtain⟨cv,hrun,hv,hsame⟩:=qmv hE hA2 g hR2 hvs;have hle02:=Rho.le_trans hle1 hle2
  have hsettle:MdRel ρ2 (qia m1) (settle u1):=by
   cases m1 with
   | ret=>have:u1=.returning:=hm1; subst this; rfl
   | pan v=>obtain⟨cv,rfl,hv⟩:=hm1; exact⟨cv,rfl,hv.mono hle2⟩
   | got v=>obtain⟨cv,rfl,hv⟩:=hm1; rfl
  have hgo:=ih (Rho.le_trans hle hle02) (hR2.same hsame) (hA.mono hle02) (hD.mono hle02) hsettle h;rcases hee with rfl|rfl
  . exact⟨hdn,u1,rfl,cv,hrun,hgo⟩
  . exact⟨hdn,u1,rfl,cv,hrun,hgo⟩
def KnSim (P:Program) (E:Env) (K:FuncId->Option KF):Prop:=∀f g,K f=some g->∀(w0:Base) (ρ:Rho) (s:St) (w:World) (args:List V) (cargs:Array Value) (e:En) (s':St),
 Rel E w0 ρ s w->VRels ρ args cargs.toList->g.run args s=some (e,s')->Calls P f cargs w (EnSim E w0 ρ s' e)
structure KnOk (P:Program) (E:Env) (K:FuncId->Option KF):Prop where
 loc:KnLoc K
 sim:KnSim P E K
theorem stepF_sim {K:FuncId->Option KF} (hE:EnvOk P E) (hK:KnSim P E K) (hs:EVSim P E self) (hl:EVLoc self) (w0:Base) (ρ:Rho) (s:St) (w:World) (f:FuncId) (args:List V) (cargs:Array Value) (e:En) (s':St) (hR:Rel E w0 ρ s w) (hv:VRels ρ args cargs.toList) (h:qn7 E K self f args s=some (e,s')) :
 Calls P f cargs w (EnSim E w0 ρ s' e):=by
 unfold qn7 fnOf at h;cases hkn:K f with
 | some g=>
  rw[hkn]at h;exact hK f g hkn w0 ρ s w args cargs e _ hR hv h
 | none=>
 rw[hkn]at h;simp only[oI,oS]at h;obtain⟨g,⟨fn,hfn,c,hc,rfl⟩,h'⟩:=h;cases hble:Nat.ble args.length fn.ntmps with
 | false=>simp only[hble,cF,reduceCtorEq]at h'
 | true=>
 simp only[hble,cT,oI,Prod.exists]at h';obtain⟨x,a1,s1,hrun,hend⟩:=h';have hA:=qm3 (fn:=fn) hv (Nat.le_of_ble_eq_true hble);refine(callsIn_wide (n:=0)).1 (callsIn_of_wp_marks (F:=qbb none) (hE.fns f fn hfn) hc trivial (wpIn_mono (qcx (rd:=none) hE hs hl c hR hA rfl hrun) fun ex ca1 w1 hx=>?_));cases x with
 | norm=>
  obtain⟨rfl,ρ1,hle,hA1,hR1⟩:=hx;exact qjj (m:=.ret) hE hs hl _ hle hR1 hA1 hA1.defers rfl hend
 | ret=>
  obtain⟨rfl,ρ1,hle,hA1,hR1⟩:=hx;exact qjj (m:=.ret) hE hs hl _ hle hR1 hA1 hA1.defers rfl hend
 | pan v=>
  obtain⟨ρ1,cv,rfl,hle,hcv,hA1,hR1⟩:=hx;exact qjj (m:=.pan v) hE hs hl _ hle hR1 hA1 hA1.defers ⟨cv,rfl,hcv⟩ hend
 | exit id=>cases hend
theorem qn2 {ρ:Rho} {n:Nat}:∀(ps:List Nat) (vs:List V) (cvs:List Value) (t t':Tr V) (ctmps:Array Value),VRels ρ vs cvs->(∀k v,t.get k=some v->VRel ρ v (ctmps.getD k undef))->ctmps.size=n->qi9 n t ps vs=some t'->
 ps.length=cvs.length/\((ps.zip cvs).foldl (fun tmps (p:Nat×Value)=>tmps.setIfInBounds p.1 p.2) ctmps).size=n/\∀k v,t'.get k=some v->VRel ρ v (((ps.zip cvs).foldl (fun tmps (p:Nat×Value)=>tmps.setIfInBounds p.1 p.2) ctmps).getD k undef)
 | [],[],cvs,t,t',ctmps,hv,ht,hn,h=>by
  cases hv;simp only[qi9,oS]at h;subst h;exact⟨rfl,hn,ht⟩
 | [],v::vs,cvs,t,t',ctmps,hv,ht,hn,h=>by simp[qi9]at h
 | p::ps,[],cvs,t,t',ctmps,hv,ht,hn,h=>by simp[qi9]at h
 | p::ps,v::vs,cvs,t,t',ctmps,hv,ht,hn,h=>by
  cases hv with
  | @cons _ cv _ cl hv1 hv2=>
  simp only[qi9,Tr.setC_eq]at h;cases hb:Nat.blt p n with
  | false=>rw[hb]at h; cases h
  | true=>
  rw[hb]at h;simp only[cT]at h;rw[blt_true]at hb
  obtain⟨h1,h2,h3⟩:=qn2 ps vs cl (t.set v p) t' (ctmps.setIfInBounds p cv) hv2 (fun k u hk=>by
   rw[Tr.get_set]at hk;by_cases e:k=p
   . rw[iP e]at hk
     simp only[oS]at hk;subst hk; subst e;simp only[Array.getD_eq_getD_getElem?,Array.getElem?_setIfInBounds,if_true];rw[iP (by omega)];exact hv1
   . rw[iN e]at hk
     have:=ht k u hk;simp only[Array.getD_eq_getD_getElem?]at this ⊢;rw[Array.getElem?_setIfInBounds_ne (fun e'=>e e'.symm)]
     exact this) (by simp[hn]) h
  exact⟨by simp[h1],h2,h3⟩
theorem stepR_sim (hE:EnvOk P E) (hs:EVSim P E self) (hl:EVLoc self) (w0:Base) (ρ:Rho) (s:St) (w:World) (l:Nat) (args:List V) (cargs:Array Value) (e:En) (s':St) (cl sh sz:Nat) (hR:Rel E w0 ρ s w) (hρ:ρ l=some (cl,sh,sz)) (hv:VRels ρ args cargs.toList) (h:stepR E self l args s=some (e,s')) :
 ∃r,w.heap[cl]?=some (.loop r)/\cargs.size=r.params.size/\RoundIn Fence.wide 0 P cl r.fn (qgv r cargs) r.assign r.body w (EnSim E w0 ρ s' e):=by
 unfold stepR at h;simp only[oI,Prod.exists]at h;obtain⟨o,s2,hg,h⟩:=h;obtain⟨hb,rfl⟩:=qci hg;cases o<;>simp only[reduceCtorEq]at h;rename_i st pend tmps n params assign body;simp only[oI,Prod.exists]at h;obtain⟨t,ht,x1,a1,s1,hrun,h⟩:=h;obtain⟨_,r,hw,hm⟩:=qma hR hb hρ;obtain⟨q1,q2,q3⟩:=qn2 params args cargs.toList tmps t r.tmps hv hm.tmp hm.n ht;have hparams:=hm.params;have hsz:cargs.size=r.params.size:=by rw[<- hparams]at q1; simpa using q1.symm
 have htm:qgv r cargs=(params.zip cargs.toList).foldl (fun tmps (p:Nat×Value)=>tmps.setIfInBounds p.1 p.2) r.tmps:=by
  unfold qgv;rw[<- hparams,<- Array.foldl_toList,Array.toList_zip]
 refine⟨r,hw,hsz,roundIn_of_wpIn trivial ?_⟩
 have hA:ARel ρ {tmps:=t,n:=n,defers:=[],round:=some l} {tmps:=qgv r cargs,defers:=[]}:=by
  rw[htm];exact⟨q2,q3,.nil⟩
 have hRn:=hR.note l 0 big false;have hc:=qcx (rd:=some cl) hE hs hl assign hRn hA ⟨cl,sh,sz,hρ,rfl⟩ hrun;rw[hm.assign,hm.body];refine wpIn_mono hc fun ex ca1 w1 hx=>?_;unfold qfd at h;cases x1<;>simp only[reduceCtorEq]at h;obtain⟨rfl,ρ1,hle1,hA1,hR1⟩:=hx;simp only[oI,Prod.exists]at h;obtain⟨o,s2,hg,h⟩:=h;obtain⟨hb1,rfl⟩:=qci hg;cases o<;>simp only[reduceCtorEq]at h;rename_i st1 pend1 tmps1 n1 params1 assign1 body1;cases hok:(Nat.beq st1 0&&Nat.beq a1.defers.length 0)with
 | false=>rw[hok]at h; cases h
 | true=>
 rw[hok]at h;simp only[cT,oI,Prod.exists]at h;obtain⟨x3,a3,s3,hrun3,hend⟩:=h;simp only[bA]at hok;obtain⟨_,r1,hw1,hm1⟩:=qma hR1 hb1 (hle1 _ _ hρ);have hready:r1.state=.ready:=loopSt_ready (by rw[hm1.st]; exact Nat.eq_of_beq_eq_true hok.1);refine⟨_,run_beginRound hw1 hready,?_⟩
 have hR2:Rel E w0 ρ1 (setO (s1.note l 0 big false) l (.loop 2 pend1 tmps1 n1 params1 assign1 body1)) (w1.putObj cl (.loop {r1 with state:=.busy})):=
  qjl hR1 hb1 (hle1 _ _ hρ) hw1 ⟨rfl,hm1.pend,hm1.n,hm1.tmp,hm1.params,hm1.assign,hm1.body⟩
 have hc2:=qcx (rd:=some cl) hE hs hl body hR2 hA1 (by rw[qbn assign hrun]; exact⟨cl,sh,sz,hle1 _ _ hρ,rfl⟩) hrun3;refine wpIn_mono hc2 fun ex3 ca3 w3 hx3=>?_;unfold qej at hend;cases hd3:Nat.beq a3.defers.length 0 with
 | false=>simp only[hd3,cF,reduceCtorEq]at hend
 | true=>
 simp only[hd3,cT]at hend
 have fin:∀{ρ3:Rho} (jump:Option Code) (st':Nat),ρ1.le ρ3->Rel E w0 ρ3 s3 w3->st'=(if jump.isNone then 0 else 1)->endRound l st' jump jump.isNone s3=some (e,s')->∃v w',(Instr.endRound cl jump).run P w3=.ok v w'/\EnSim E w0 ρ s' e (.returned v) w':=by
  intro ρ3 jump st' hle3 hR3 hst hh;unfold endRound at hh;simp only[oI,Prod.exists]at hh;obtain⟨o,s4,hg4,hh⟩:=hh;obtain⟨hb4,rfl⟩:=qci hg4;cases o<;>simp only[reduceCtorEq,oS,pM]at hh;obtain⟨rfl,rfl⟩:=hh;have hρ3:=hle3 _ _ (hle1 _ _ hρ);obtain⟨_,r3,hw3,hm3⟩:=qma hR3 hb4 hρ3;refine⟨_,_,run_endRound jump hw3,ρ3,_,rfl,Rho.le_trans hle1 hle3,.bool _,qjl hR3 hb4 hρ3 hw3 ⟨?_,rfl,hm3.n,hm3.tmp,hm3.params,hm3.assign,hm3.body⟩⟩;rw[hst];cases jump<;>rfl
 cases x3 with
 | norm=>
  obtain⟨rfl,ρ3,hle3,_,hR3⟩:=hx3;exact fin none 0 hle3 hR3 rfl hend
 | ret=>
  obtain⟨rfl,ρ3,hle3,_,hR3⟩:=hx3;exact fin (some .ret) 1 hle3 hR3 rfl hend
 | exit id=>
  obtain⟨rfl,ρ3,hle3,_,hR3⟩:=hx3;exact fin (some (.exit id)) 1 hle3 hR3 rfl hend
 | pan v=>cases hend
theorem ev_sim {K:FuncId->Option KF} (hE:EnvOk P E) (hK:KnOk P E K):∀n,EVSim P E (ev E K n)
 | 0=>⟨fun _ _ _ _ _ _ _ _ _ _ _ h=>(by cases h),fun _ _ _ _ _ _ _ _ _ _ _ _ _ _ _ h=>(by cases h)⟩
 | n+1=>⟨fun w0 ρ s w f args cargs e s' hR hv h=>stepF_sim hE hK.sim (ev_sim hE hK n) (loc_ev E hK.loc n) w0 ρ s w f args cargs e s' hR hv h,fun w0 ρ s w l args cargs e s' cl sh sz hR hρ hv h=>stepR_sim hE (ev_sim hE hK n) (loc_ev E hK.loc n) w0 ρ s w l args cargs e s' cl sh sz hR hρ hv h⟩
end
open Go.WideShapes Go.ChangeShapes
def base0 (w:World):Base:=
 {w:=w,pt:={prot:=fun k=>k<w.heap.size,old:=fun k=>k<w.heap.size,sub:=fun _ h=>h},out:=fun _=>False,lo:=0,fzp:=fun _=>True,protLt:=fun _ h=>h,outLt:=fun _ h=>h.elim}
theorem below_of_rel {E:Env} {ρ:Rho} {s:St} {w w':World} (h:Rel E (base0 w) ρ s w'):Below w.heap.size w w':=
 ⟨h.below.os,h.below.tape,h.below.output,h.below.size,fun k hk=>h.below.block k hk⟩
theorem post_kept {H:Type} {enc:TypeId×Value->H} {P:Program} {f:Func} {s:ChangeSpec} {apart fresh handsOn again:Bool} {W W':World} {args:Array Value} {v:Value} {ds gs:List (DataW H)} {before pa pv:List MemPlace}
 (hW:DataW.Whole enc P f.params.toList s.vars apart W args.toList ds gs before)
 (hres:∀(b:Nat) (sp:Nat->Bool) (hd:Bool),DataW.TrodAll enc P W' b sp hd f.resultTypes.toList (v.resultList f.resultTypes.size) (s.fn H (ds++gs)).results [])
 (hargs:∀sp:Nat->Bool,(∀p∈before,sp p.block=true)->DataW.TrodAll enc P W' 0 sp true f.params.toList args.toList (s.fn H (ds++gs)).args pa)
 (hvars:∀sp:Nat->Bool,(∀p∈before,sp p.block=true)->DataW.TrodVars enc P W' sp s.vars (s.fn H (ds++gs)).vars pv)
 (hps:before=pa++pv) (hb:Below W.heap.size W W')
 (hok:∀(j:Nat) (t:TypeId) (r:Value),f.resultTypes[j]?=some t->(v.resultList f.resultTypes.size)[j]?=some r->Value.okWide P W' .any 0 t r) :
 s.post enc P f apart fresh handsOn again W args v W':=by
 have hlt:∀p∈before,p.block<W.heap.size:=fun p hp=>hW.lt p hp;have hold:∀p∈before,(fun b=>decide (b<W.heap.size)) p.block=true:=fun p hp=>by simpa using hlt p hp
 refine⟨ds,gs,before,[],pa,pv,hW,hres _ _ _,hargs _ hold,hvars _ hold,World.keptBut_mono (fun p hp=>⟨hp,?_⟩) (hb.frame (·∈before)),fun _=>?_⟩
 . rw[hps,List.mem_append]at hp
   exact Or.inr hp
 . obtain⟨_,_,_,_,_,hz,hn⟩:=hW
   refine⟨hok,_,_,([]++pa)++pv,⟨[]++pa,pv,trodAll_append (hargs _ (fun _ _=>rfl)) (hres _ _ _),hvars _ (fun _ _=>rfl),rfl,?_,?_⟩,?_⟩
   . intro b off hp
     have hin:MemPlace.cell b off∈before:=by rw[hps]; simpa using hp
     rw[hb.frozen (hlt _ hin)];exact hz b off hin
   . intro ha
     have:=hn ha;rw[hps]at this;simpa using this
   . intro p hp _
     rw[hps];simpa using hp
end Go.Proofs.YtafbipadnnmccaaDoor.Ev
namespace Go.Proofs.YtafbipadnnmccaaDoor.Ev
open Go.RowKit
section
variable {P:Program} {E:Env} {w0:Base} {ρ:Rho} {s:St} {w w':World}
theorem Rel.grown (h:Rel E w0 ρ s w) (hb:Below w.heap.size w w'):Rel E w0 ρ s w':=by
 refine⟨⟨hb.os.trans h.below.os,hb.tape.trans h.below.tape,hb.output.trans h.below.output,Nat.le_trans h.below.size hb.size,fun k hk=>?_⟩,h.dom,h.lo,fun b o ho=>?_,h.sep,h.glob,fun k o hk=>(hb.block k (h.fzLt hk)).trans (h.fz k o hk),h.apart,h.fzIn⟩
 . exact(hb.block k (Nat.lt_of_lt_of_le (w0.protLt k hk) h.below.size)).trans (h.below.block k hk)
 . have hO:=h.obj b o ho
   cases ha:o.alive with
   | false=>cases o<;>simp only[O.alive,Bool.true_eq_false]at ha; trivial
   | true=>
    obtain⟨cb,sh,sz,hρ,hlt⟩:=hO.place ha;refine OR.of_same (Rho.le_refl ρ) hO fun cb' sh' sz' h'=>?_;rw[hρ]at h';simp only[oS,pM]at h';obtain⟨rfl,rfl,rfl⟩:=h';exact hb.block cb hlt
structure KnWell (P:Program) (E:Env) (f:FuncId) (g:KF):Prop where
 loc:∀args,LocP fun s=>g.run args s
 sim:∀(w0:Base) (ρ:Rho) (s:St) (w:World) (args:List V) (cargs:Array Value) (e:En) (s':St),
  Rel E w0 ρ s w->VRels ρ args cargs.toList->g.run args s=some (e,s')->Calls P f cargs w (EnSim E w0 ρ s' e)
end
end Go.Proofs.YtafbipadnnmccaaDoor.Ev
namespace Go.Proofs.YtafbipadnnmccaaDoor.Ev
def marks:List Nat->Tr Unit
 | []=>.nil
 | t::l=>(marks l).set () t
def kinds {α:Type}:List (Nat×α)->Tr α
 | []=>.nil
 | p::l=>(kinds l).set p.2 p.1
def envOf (P:Program) (pl:List TypeId) (ex:List (FuncId×Nat)) (li:List (Nat×Nat×Nat)):Env:=
 {fns:=Tr.ofListFrom .nil P.funcs.toList 0,tys:=Tr.ofListFrom .nil P.types.toList 0,plain:=marks pl,ext:=kinds ex,glob:=.nil,lie:=li}
theorem marks_get:∀{l:List Nat} {t:Nat} {u:Unit},(marks l).get t=some u->t∈l
 | [],t,u,h=>by simp[marks,Tr.get_nil]at h
 | x::l,t,u,h=>by
  simp only[marks,Tr.get_set]at h;by_cases e:t=x
  . exact e▸List.mem_cons_self ..
  . rw[iN e]at h; exact mO _ (marks_get h)
theorem qiu {α:Type}:∀{l:List (Nat×α)} {f:Nat} {k:α},(kinds l).get f=some k->(f,k)∈l
 | [],f,k,h=>by simp[kinds,Tr.get_nil]at h
 | p::l,f,k,h=>by
  simp only[kinds,Tr.get_set]at h;by_cases e:f=p.1
  . rw[iP e]at h
    simp only[oS]at h;subst h; subst e;exact List.mem_cons_self ..
  . rw[iN e]at h; exact mO _ (qiu h)
def notCount (l : List Func) : Bool := l.all fun fn => !(fn.name == "runtime.NumGoroutine")
def bodiless (P:Program) (ex:List (FuncId×Nat)):Bool:=ex.all fun p=>match P.funcs[p.1]? with|some fn=>fn.body.isNone|none=>true
def plainAll (P:Program) (pl:List TypeId):Bool:=pl.all fun t=>!P.eqGuardType P.depth t&&!P.stoodInHeld t
def lieAll (P:Program) (li:List (Nat×Nat×Nat)):Bool:=li.all fun p=>rowAt P (sameLayout P P.depth · p.2.2) P.depth p.1 1 p.2.1 1
theorem envOf_ok {P:Program} {pl:List TypeId} {ex:List (FuncId×Nat)} {li:List (Nat×Nat×Nat)} (hnames:notCount P.funcs.toList=true) (hbody:bodiless P ex=true) (hplain:plainAll P pl=true) (hext:∀p∈ex,ExtOk P p.1 p.2) (hmixed:P.follows .mixedOrders=true) (hlie:lieAll P li=true) (hdepth:Nat.blt 0 P.depth=true) :
 EnvOk P (envOf P pl ex li):=by
 have hfns:∀f fn,(envOf P pl ex li).fns.get f=some fn->P.funcs[f]?=some fn:=fun f fn h=>by
  have h':(Tr.ofListFrom .nil P.funcs.toList 0).get f=some fn:=h;rw[Tr.get_ofList]at h';simpa using h'
 refine⟨fun t i h=>?_,hfns,fun f hb _ args w=>?_,fun f k h=>hext (f,k) (qiu h),fun f k h=>?_,fun t h=>?_,hmixed,fun p hp=>List.all_eq_true.1 hlie p hp,blt_true.1 hdepth⟩
 . have h':(Tr.ofListFrom .nil P.types.toList 0).get t=some i:=h
   rw[Tr.get_ofList]at h';have h2:P.types[t]?=some i:=by simpa using h'
   unfold Tables.info?;rw[iP (Array.getElem?_eq_some_iff.1 h2).1];exact h2
 . unfold qd9 at hb
   cases hf:(envOf P pl ex li).fns.get f with
   | none=>rw[hf]at hb; cases hb
   | some fn=>
    rw[hf]at hb;have hfn:=hfns f fn hf
    have hmem:fn∈P.funcs.toList:=by
     have:=Array.mem_of_getElem? hfn;simpa using this
    have hn := List.all_eq_true.1 hnames fn hmem;simp only [Bool.not_eq_true'] at hn;have hn' : ¬ fn.name = "runtime.NumGoroutine" := by simpa using hn
    have hbody:¬fn.body=none:=fun e=>by simp[e]at hb
    simp[callFunc,hfn,hn',hbody]
 . have hb:=List.all_eq_true.1 hbody (f,k) (qiu h)
   unfold qd9;cases hf:(envOf P pl ex li).fns.get f with
   | none=>rfl
   | some fn=>
    have hfn:=hfns f fn hf;simp only[hfn]at hb;cases hb2:fn.body with
    | none=>simp[hb2]
    | some c=>rw[hb2]at hb; cases hb
 . have:=List.all_eq_true.1 hplain t (marks_get h)
   simp only[bA,Bool.not_eq_true']at this;exact this
def knAdd (K:FuncId->Option KF) (f:FuncId) (g:KF):FuncId->Option KF:=fun x=>bif Nat.beq x f then some g else K x
theorem KnOk.add {P:Program} {E:Env} {K:FuncId->Option KF} (h:KnOk P E K) {f:FuncId} {g:KF} (hg:KnWell P E f g):KnOk P E (knAdd K f g):=by
 have key:∀{x y},knAdd K f g x=some y->(x=f/\y=g)\/K x=some y:=fun{x y} hx=>by
  unfold knAdd at hx;rcases qad x f with⟨h1,h2⟩|⟨h1,_⟩
  . rw[h1]at hx; simp only[cT,oS]at hx; exact .inl ⟨h2,hx.symm⟩
  . rw[h1]at hx; exact .inr hx
 refine⟨fun x y hx args=>?_,fun x y hx w0 ρ s w args cargs e s' hR hv hr=>?_⟩
 . rcases key hx with⟨rfl,rfl⟩|hx
   . exact hg.loc args
   . exact h.loc x y hx args
 . rcases key hx with⟨rfl,rfl⟩|hx
   . exact hg.sim w0 ρ s w args cargs e s' hR hv hr
   . exact h.sim x y hx w0 ρ s w args cargs e s' hR hv hr
theorem knOk_nil {P:Program} {E:Env}:KnOk P E (fun _=>none):=⟨fun _ _ h=>(by cases h),fun _ _ h=>(by cases h)⟩
noncomputable section
abbrev Rs:=Option (En×St)
inductive D where
 | skip
 | region (ops:Array Oper)
 | drawn (ops:Array Oper)
 | seq (x y:D)
 | join (x:D) (L:List Nat) (y:D)
 | cond (c:Operand) (x y:D)
 | block (id:Nat) (x:D)
 | loop (L:List Nat) (x:D)
 | exit (id:Nat) (L:List Nat)
 | ret
 | out (x:D) (L:List Nat)
 | scope (x:D)
 | label
 | range (f:Operand) (ps:List Nat) (assign body:Code)
 | bad
def qaz:Code->List (List Nat)->D×List (List Nat)
 | .region _ ops false,n=>(.region ops,n)
 | .region _ ops true,n=>(.drawn ops,n)
 | .seq x y,n=>
  let p:=qaz x n
  match p.2 with
  | (0::L)::M::m=>let q:=qaz y m; (.join p.1 L (.out q.1 M),q.2)
  | _=>let q:=qaz y p.2.tail; (.seq p.1 q.1,q.2)
 | .cond c x y,n=>
  let p:=qaz x n
  let q:=qaz y p.2
  (.cond c p.1 q.1,q.2)
 | .block id x,n=>let p:=qaz x n; (.block id p.1,p.2)
 | .loop x,n=>let p:=qaz x n.tail; (.loop (n.headD []) p.1,p.2)
 | .exit id,n=>(.exit id (n.headD []),n.tail)
 | .ret,n=>(.ret,n)
 | .scope x,n=>let p:=qaz x n; (.scope p.1,p.2)
 | .label _,n=>(.label,n)
 | .skip,n=>(.skip,n)
 | .rangeFunc f ps x y,n=>(.range f ps.toList x y,n)
 | _,n=>(.bad,n)
def isOf:D->Code->Prop
 | .skip,c=>c=.skip
 | .region ops,c=>∃i,c=.region i ops false
 | .drawn ops,c=>∃i,c=.region i ops true
 | .seq x y,c=>∃a b,c=.seq a b/\isOf x a/\isOf y b
 | .join x _ y,c=>∃a b,c=.seq a b/\isOf x a/\isOf y b
 | .cond o x y,c=>∃a b,c=.cond o a b/\isOf x a/\isOf y b
 | .block id x,c=>∃a,c=.block id a/\isOf x a
 | .loop _ x,c=>∃a,c=.loop a/\isOf x a
 | .exit id _,c=>c=.exit id
 | .ret,c=>c=.ret
 | .out x _,c=>isOf x c
 | .scope x,c=>∃a,c=.scope a/\isOf x a
 | .label,c=>∃l,c=.label l
 | .range f ps x y,c=>∃a,c=.rangeFunc f a x y/\a.toList=ps
 | .bad,_=>True
def qhu:Code->Bool
 | .skip|.region _ _ _|.exit _|.ret=>true
 | .seq x y=>qhu x&&qhu y
 | .cond _ x y=>qhu x&&qhu y
 | .block _ x=>qhu x
 | .loop x=>qhu x
 | .scope x=>qhu x
 | _=>true
theorem qa4:∀(c:Code) (n:List (List Nat)),qhu c=true->isOf (qaz c n).1 c
 | .skip,n,_=>rfl
 | .region i ops d,n,_=>by cases d<;>exact⟨i,rfl⟩
 | .exit id,n,_=>rfl
 | .ret,n,_=>rfl
 | .seq x y,n,h=>by
  simp only[qhu,bA]at h;have hx:=qa4 x n h.1;simp only[qaz];split
  . exact⟨x,y,rfl,hx,qa4 y _ h.2⟩
  . exact⟨x,y,rfl,hx,qa4 y _ h.2⟩
 | .cond c x y,n,h=>by
  simp only[qhu,bA]at h;exact⟨x,y,rfl,qa4 x n h.1,qa4 y (qaz x n).2 h.2⟩
 | .block id x,n,h=>⟨x,rfl,qa4 x n h⟩
 | .loop x,n,h=>⟨x,rfl,qa4 x n.tail h⟩
 | .scope x,n,h=>⟨x,rfl,qa4 x n h⟩
 | .label l,_,_=>⟨l,rfl⟩
 | .rangeFunc f ps x y,_,_=>⟨ps,rfl,rfl⟩
 | .goto _,_,_=>trivial
 | .refuse _,_,_=>trivial
def qao (c:V) (x y:Option V):Option V:=
 match c with
 | .bool b=>bif b then x else y
 | _=>none
def qa1 (v:V):Option V:=bif qmf v then some v else none
def makeIfaceV (E:Env) (t:TypeId) (v:V):Option V:=(und E t).bind fun d=>bif qbr d then some (.iface t v)else none
def qac (v:V) (i:Nat):Option V:=
 match v with
 | .tuple vs=>vs[i]?
 | _=>none
def fieldAddrV (E:Env) (t:TypeId) (f:Nat) (v:V):Option V:=
 (qh8 E t f).bind fun p=>bif Nat.beq p.2.2 0 then none else
  match v with
  | .ptr b off=>some (.ptr b (off+p.1))
  | .cptr (.agg n cs)=>(qgq E p.2.1 n cs p.1).bind fun v=>some (.cptr v)
  | _=>none
def fieldV (E:Env) (t:TypeId) (f:Nat) (v:V):Option V:=
 (qh8 E t f).bind fun p=>
  match v with
  | .agg n cs=>qgq E p.2.1 n cs p.1
  | _=>none
def elemPtr (z n:Nat) (v:V):Option V:=
 match v with
 | .slice b off len _=>bif Nat.blt n len then some (.ptr b (off+n*z))else none
 | .oslice b off len _=>bif Nat.blt n len then some (.ptr b (off+n*z))else none
 | .list z' l=>bif Nat.beq z z'&&Nat.blt 0 z then(l[n]?).bind fun v=>some (.cptr v)else none
 | _=>none
def arrayPtr (E:Env) (e:TypeId) (z len n:Nat) (v:V):Option V:=
 match v with
 | .ptr b off=>bif Nat.blt n len then some (.ptr b (off+n*z))else none
 | .cptr (.agg m cs)=>bif Nat.blt n len&&Nat.blt 0 z then(qgq E e m cs (n*z)).bind fun v=>some (.cptr v)else none
 | _=>none
def indexAddrK (E:Env) (t:TypeId) (v vi:V):Option V:=
 (und E t).bind fun
 | .array len e=>(sizeT E e).bind fun z=>(qdv vi).bind fun n=>arrayPtr E e z len n v
 | .slice e=>(sizeT E e).bind fun z=>(qdv vi).bind fun n=>elemPtr z n v
 | _=>none
def byteAt (v:V) (n:Nat):Option V:=
 match v with
 | .str len k=>bif Nat.blt n len then some (.int .u8 (.ofNat (k/256^n%256)))else none
 | _=>none
def partAt (E:Env) (e:TypeId) (z len n:Nat) (v:V):Option V:=
 match v with
 | .agg m cs=>bif Nat.blt n len then qgq E e m cs (n*z)else none
 | _=>none
def indexK (E:Env) (t:TypeId) (v vi:V):Option V:=
 (und E t).bind fun
 | .array len e=>(sizeT E e).bind fun z=>(qdv vi).bind fun n=>partAt E e z len n v
 | .string=>(qdv vi).bind fun n=>byteAt v n
 | _=>none
def qij (E:Env) (t:TypeId) (ok:Bool):Option V:=bif ok then(qhj E t).bind fun z=>some (.tuple [z,.bool false])else none
def qlg (E:Env) (t:TypeId) (ok:Bool) (v:V):Option V:=
 (und E t).bind fun d=>bif qbr d then
  match v with
  | .iface u v=>bif Nat.beq u t then some (bif ok then .tuple [v,.bool true]else v)else qij E t ok
  | .niliface=>qij E t ok
  | _=>none
 else none
def opV (E:Env) (a:Ac):Op->Option V
 | .move x=>evO E a x
 | .assign x=>evO E a x
 | .pick c x y=>(evO E a c).bind fun vc=>qao vc (evO E a x) (evO E a y)
 | .build t parts=>(qei E a parts.toList).bind fun ps=>qab E t ps
 | .nilCheck x=>(evO E a x).bind qa1
 | .binOp op t x y _=>(evO E a x).bind fun vx=>(evO E a y).bind fun vy=>qa5 E op t (qcz x) (qcz y) vx vy
 | .unOp op _ x=>(evO E a x).bind fun v=>unV op v
 | .makeInterface t x=>(evO E a x).bind fun v=>makeIfaceV E t v
 | .makeFunc fn first captured=>(qcn E a first.toList).bind fun x=>(qcn E a captured.toList).bind fun y=>some (.fn fn x y)
 | .fieldAddr t x f=>(evO E a x).bind fun v=>fieldAddrV E t f v
 | .field t x f=>(evO E a x).bind fun v=>fieldV E t f v
 | .indexAddr t x i=>(evO E a i).bind fun vi=>(evO E a x).bind fun v=>indexAddrK E t v vi
 | .index t x i=>(evO E a i).bind fun vi=>(evO E a x).bind fun v=>indexK E t v vi
 | .typeAssert x _ t ok=>(evO E a x).bind fun v=>qlg E t ok v
 | .extract t i=>(evO E a t).bind fun v=>qac v i
 | _=>none
def isPure:Op->Bool
 | .move _|.assign _|.pick ..|.build ..|.nilCheck _|.binOp ..|.unOp ..|.makeInterface ..|.makeFunc ..|.fieldAddr ..|.field ..
 | .indexAddr ..|.index ..|.typeAssert ..|.extract ..=>true
 | _=>false
def vu (r:Option St):Option (V×St):=r.bind fun s=>some (.tuple [],s)
def loadK (E:Env) (t:TypeId) (v:V) (s:St):Option (V×St):=
 match v with
 | .ptr b off=>loadV E t b off s
 | .cptr u=>bif fitsT E t u then some (u,s)else none
 | _=>none
def storeK (E:Env) (t:TypeId) (p v:V) (s:St):Option (V×St):=
 match p with
 | .ptr b off=>vu (qkd E t b off v s)
 | _=>none
def boxK (t:TypeId) (v:V) (s:St):Option (V×St):=bif qaa v then none else some (.ptr s.next 0,qan s t v.size [v.cells])
def allocK (E:Env) (t:TypeId) (s:St):Option (V×St):=(qhj E t).bind fun z=>some (.ptr s.next 0,qan s t z.size [z.cells])
def qlk (E:Env) (t:TypeId) (len:Nat) (ps:List (Nat×V)) (s:St):Option (V×St):=
 (qcq E t).bind fun q=>bif Nat.ble (len*q.2.1) 65536 then
  (qhj E q.1).bind fun z=>bif Nat.beq z.size q.2.1&&Nat.blt 0 q.2.1 then
  (qgi len q.2.1 (Tr.tab len len fun _=>z.cells) ps).bind fun l=>some (.slice s.next 0 len len,nw s (.cells q.1 q.2.1 len false l))else none
 else none
def makeAtK (E:Env) (e:TypeId) (size bytes n m:Nat) (s:St):Option (V×St):=
 bif Nat.ble n m&&Nat.blt (m*(bytes+size+1)) qai then
  (qhj E e).bind fun z=>bif Nat.beq z.size size then some (.slice s.next 0 n m,makeRow s e size z m)else none
 else none
def makeSliceK (E:Env) (t:TypeId) (vl vc:V) (s:St):Option (V×St):=
 (qcq E t).bind fun q=>(qdv vl).bind fun n=>(qdv vc).bind fun m=>makeAtK E q.1 q.2.1 q.2.2 n m s
def lenK (E:Env) (t:TypeId) (x:V) (s:St):Option (V×St):=
 (und E t).bind fun
 | .array n _=>some (.int .i64 (.ofNat n),s)
 | .pointer e=>(und E e).bind fun
  | .array n _=>some (.int .i64 (.ofNat n),s)
  | _=>none
 | .string=>match x with
  | .str n _=>some (.int .i64 (.ofNat n),s)
  | _=>none
 | .slice _=>match x with
  | .str _ _=>none
  | x=>(lenV x).bind fun n=>some (.int .i64 (.ofNat n),s)
 | .map _ _=>match x with
  | .nilmap=>some (.int .i64 0,s)
  | .map r=>(qky s r).bind fun p=>match p.1 with
   | .map es _=>some (.int .i64 (.ofNat es.length),p.2)
   | _=>none
  | _=>none
 | _=>none
def appendK (E:Env) (t t2:TypeId) (x y:V) (s:St):Option (V×St):=
 (qcq E t).bind fun q=>(und E t2).bind fun d2=>bif qdt d2&&qbl E q.1 q.2.1 then
  (lenV y).bind fun n=>(lenV x).bind fun m=>bif Nat.blt ((m+n)*(q.2.2+q.2.1+1)) qai then qcs q.1 q.2.1 n x y s else none
 else bif !qdt d2&&qbl E q.1 q.2.1 then qec E q.1 q.2.1 q.2.2 x y s else none
def qlr (size:Nat) (x:V) (n:Nat) (l:List (Tr V)) (s:St):Option (V×St):=
 match x with
 | .slice b off _ _=>(stN b size l off s).bind fun s=>some (.int .i64 (.ofNat n),s)
 | .oslice b off _ _=>(stN b size l off s).bind fun s=>some (.int .i64 (.ofNat n),s)
 | .nilslice=>some (.int .i64 (.ofNat n),s)
 | .eslice=>some (.int .i64 (.ofNat n),s)
 | _=>none
def copyK (E:Env) (t:TypeId) (x y:V) (s:St):Option (V×St):=
 (qcq E t).bind fun q=>(lenV x).bind fun m=>(lenV y).bind fun k=>(qb7 q.2.1 (Nat.min k m) y s).bind fun p=>qlr q.2.1 x (Nat.min k m) p.1 p.2
def qki (f:V->V->Option V) (x:V) (l:List V) (s:St):Option (V×St):=(foldV f x l).bind fun v=>some (v,s)
def nextK (b:V) (isString:Bool) (s:St):Option (V×St):=
 bif isString then
  match b with
  | .ptr b off=>bif Nat.beq off 0 then
   (qky s b).bind fun p=>match p.1 with
   | .siter l n pos=>bif Nat.blt pos l then
    some (.tuple [.bool true,.int .i64 (.ofNat pos),.int .i32 (.ofNat (decP l n pos).1)],setO p.2 b (.siter l n (pos+(decP l n pos).2)))
    else some (.tuple [.bool false],p.2)
   | _=>none
   else none
  | _=>none
 else none
def rangeStrK (E:Env) (t:TypeId) (x:V) (s:St):Option (V×St):=
 (und E t).bind fun
 | .string=>match x with
  | .str l n=>some (.ptr s.next 0,nw s (.siter l n 0))
  | _=>none
 | _=>none
def makeMapK (E:Env) (t:TypeId) (r:Option V) (s:St):Option (V×St):=
 match r with
 | none=>some (.map s.next,nw s (.map [] 0))
 | some v=>(und E t).bind fun d=>bif isMapT d&&isInt v then some (.map s.next,nw s (.map [] 0))else none
def capP (x:V) (s:St):Option (V×St):=
 match x with
 | .slice _ _ _ c=>some (.int .i64 (.ofNat c),s)
 | .nilslice=>some (.int .i64 0,s)
 | _=>none
def capK (E:Env) (t:TypeId) (x:V) (s:St):Option (V×St):=
 (und E t).bind fun
 | .slice _=>capP x s
 | _=>none
def qh3 (E:Env) (a:Ac) (s:St) (b:Builtin) (ts:List TypeId) (args:List Operand):Option (V×St):=
 match b,ts,args with
 | .len,t::_,[x]=>(evO E a x).bind fun v=>lenK E t v s
 | .append,t::t2::_,[x,y]=>(evO E a x).bind fun vx=>(evO E a y).bind fun vy=>appendK E t t2 vx vy s
 | .copy,t::_,[x,y]=>(evO E a x).bind fun vx=>(evO E a y).bind fun vy=>copyK E t vx vy s
 | .delete,t::_,[x,y]=>(evO E a x).bind fun m=>(evO E a y).bind fun k=>vu (qgg E t m k s)
 | .min,_,x::l=>(evO E a x).bind fun v=>(qcn E a l).bind fun vs=>qki minV v vs s
 | .max,_,x::l=>(evO E a x).bind fun v=>(qcn E a l).bind fun vs=>qki maxV v vs s
 | .cap,t::_,[x]=>(evO E a x).bind fun v=>capK E t v s
 | _,_,_=>none
def opS (E:Env) (a:Ac) (s:St):Op->Option (V×St)
 | .alloc t=>allocK E t s
 | .box t x=>(evO E a x).bind fun v=>boxK t v s
 | .buildSlice t len parts=>(qei E a parts.toList).bind fun ps=>qlk E t len ps s
 | .load t x=>(evO E a x).bind fun v=>loadK E t v s
 | .store t x y=>(evO E a x).bind fun p=>(evO E a y).bind fun v=>storeK E t p v s
 | .convert src dst x=>(evO E a x).bind fun v=>qc2 E src dst v s
 | .makeMap t r=>(qg6 E a r).bind fun v=>makeMapK E t v s
 | .makeSlice t l c=>(evO E a l).bind fun vl=>(evO E a c).bind fun vc=>makeSliceK E t vl vc s
 | .slice t x lo hi mx=>(evO E a x).bind fun v=>(qg6 E a lo).bind fun l=>(qg6 E a hi).bind fun h=>(qg6 E a mx).bind fun m=>qak E t v l h m s
 | .lookup t x i ok=>(evO E a x).bind fun m=>(evO E a i).bind fun k=>qgm E t m k ok s
 | .mapUpdate t m k x=>(evO E a m).bind fun m=>(evO E a k).bind fun k=>(evO E a x).bind fun v=>vu (qfy E t m k v s)
 | .insert t m k x=>(evO E a m).bind fun m=>(evO E a k).bind fun k=>(evO E a x).bind fun v=>vu (qfy E t m k v s)
 | .mapEntry t m k=>(evO E a m).bind fun m=>(evO E a k).bind fun k=>qk2 E t m k s
 | .entryStore _ m st x=>(evO E a m).bind fun m=>(evO E a st).bind fun st=>(evO E a x).bind fun v=>vu (qca m st v s)
 | .range t x=>(evO E a x).bind fun v=>rangeStrK E t v s
 | .next x isString=>(evO E a x).bind fun v=>nextK v isString s
 | .call c=>match c.callee with
  | .builtin b=>qh3 E a s b c.argTypes.toList c.args.toList
  | _=>none
 | _=>none
def qbo (E:Env) (self:EV) (f:V) (args:List V) (s:St):Rs:=
 match f with
 | .fn (.func f) first captured=>match E.ext.get f with
  | some k=>(extV k (first++args++captured) s).bind fun
   | .val v s=>some (.ret v,s)
   | _=>none
  | none=>bif qd9 E f then self.f f (first++args++captured) s else none
 | .yield l=>self.r l args s
 | _=>none
def qkc (v:V) (s:St):Rs:=
 match v with
 | .iface t v=>some (.pan (.iface t v),s)
 | _=>none
def opC (E:Env) (self:EV) (a:Ac) (s:St):Op->Rs
 | .call c=>match c.callee with
  | .value f=>(evO E a f).bind fun fv=>(qcn E a c.args.toList).bind fun vs=>qbo E self fv vs s
  | .builtin .panic=>match c.args.toList with
   | [x]=>(evO E a x).bind fun v=>qkc v s
   | _=>none
  | _=>none
 | .panic x=>(evO E a x).bind fun v=>qkc v s
 | _=>none
def isCall:Op->Bool
 | .panic _=>true
 | .call c=>match c.callee with
  | .value _=>true
  | .builtin .panic=>true
  | _=>false
 | _=>false
def putK (d:Option Tmp) (a:Ac) (v:V) (k:Ac->Rs):Rs:=
 match d with
 | none=>k a
 | some d=>bif Nat.blt d a.n then k {a with tmps:=a.tmps.set v d}else none
def qa2 (want:Bool) (v:V):Option Bool:=
 match v with
 | .bool b=>some (bif want then b else !b)
 | _=>some false
def boolV (v:V):Option Bool:=
 match v with
 | .bool b=>some b
 | _=>none
def onEn (r:Rs) (k p:V->St->Rs):Rs:=
 r.bind fun q=>match q.1 with
  | .ret v=>k v q.2
  | .pan v=>p v q.2
def deferK (E:Env) (a:Ac) (c:Call):Option AD:=
 match c.callee,a.round with
 | .value f,none=>(evO E a f).bind fun
  | .fn g first captured=>(qcn E a c.args.toList).bind fun vs=>some {mark:=none,f:=g,captured:=captured,args:=first++vs}
  | _=>none
 | _,_=>none
def oneK (E:Env) (self:EV) (ops:Array Oper) (o:Oper) (a:Ac) (s:St) (k:Ac->St->Rs) (p:V->Ac->St->Rs):Rs:=
 match o.guard with
 | none=>
  bif isPure o.op then(opV E a o.op).bind fun v=>putK o.dst a v fun a=>k a s
  else bif isCall o.op then onEn (opC E self a s o.op) (fun v s=>putK o.dst a v fun a=>k a s) (fun v s=>p v a s)
  else(opS E a s o.op).bind fun q=>putK o.dst a q.1 fun a=>k a q.2
 | some (j,want)=>(((ops[j]?).bind (·.dst)).bind fun t=>bif Nat.blt t a.n then(a.tmps.get t).bind (qa2 want)else none).bind fun b=>
  bif isPure o.op then(bif b then opV E a o.op else some (.tuple [])).bind fun v=>putK o.dst a v fun a=>k a s
  else bif isCall o.op then onEn (bif b then opC E self a s o.op else some (.ret (.tuple []),s)) (fun v s=>putK o.dst a v fun a=>k a s) (fun v s=>p v a s)
  else(bif b then opS E a s o.op else some (.tuple [],s)).bind fun q=>putK o.dst a q.1 fun a=>k a q.2
def oneD (E:Env) (self:EV) (ops:Array Oper) (o:Oper) (a:Ac) (s:St) (k:Ac->St->Rs) (p:V->Ac->St->Rs):Rs:=
 match o.op,o.guard with
 | .defer c,none=>(deferK E a c).bind fun d=>putK o.dst {a with defers:=d::a.defers} (.tuple []) fun a=>k a s
 | _,_=>oneK E self ops o a s k p
def opsK (E:Env) (self:EV) (ops:Array Oper) (l:List Oper) (k:Ac->St->Rs) (p:V->Ac->St->Rs):Ac->St->Rs:=
 List.rec (motive:=fun _=>Ac->St->Rs) k (fun o _ ih a s=>oneD E self ops o a s ih p) l
def drawK (E:Env) (self:EV) (ops:Array Oper) (l:List Oper) (k:List (List LE)->Ac->St->Rs) (p:List (List LE)->V->Ac->St->Rs):List (List LE)->Ac->St->Rs:=
 List.rec (motive:=fun _=>List (List LE)->Ac->St->Rs) k
  (fun o _ ih ls a s=>oneK E self ops o a {s with on:=true,log:=[]} (fun a s=>ih (s.log::ls) a s) (fun v a s=>p (s.log::ls) v a s)) l
structure Kt where
 norm:Ac->St->Rs
 ret:Ac->St->Rs
 exit:Nat->Ac->St->Rs
 pan:V->Ac->St->Rs
def endK (pl:Plan) (s0:St) (ls:List (List LE)) (s:St) (k:St->Rs):Rs:=
 bif qag ls.reverse pl.prs then k (qbh s0 s ls.reverse)else none
def projT:List Nat->Tr V->Tr V->(Tr V->Rs)->Rs
 | [],_,acc,k=>k acc
 | i::L,t,acc,k=>(t.get i).bind fun v=>projT L t (acc.set v i) k
def qb8 (L:List Nat) (a:Ac) (k:Ac->Rs):Rs:=projT L a.tmps .nil fun t=>k {a with tmps:=t}
def pinOk (i:Nat) (logs:List (List LE)) (pls:List Pl):Bool:=
 match pls.find? fun p=>Nat.beq p.i i with
 | some p=>qfr i p.bef logs pls
 | none=>false
def stays (L:List Nat):List Pl->Bool
 | []=>true
 | q::l=>(match q.dst with|some d=>!memN d L|none=>true)&&stays L l
def panK (L:List Nat) (pl:Plan) (s0:St) (ls:List (List LE)) (v:V) (a:Ac) (s:St) (k:V->Ac->St->Rs):Rs:=
 bif qag ls.reverse pl.prs&&pinOk (ls.length-1) ls.reverse pl.pls&&stays L pl.pls then qb8 L a fun a=>k v a (qbh s0 s ls.reverse)else none
def frT:List (Nat×V)->Tr V->Tr V
 | [],t=>t
 | p::l,t=>frT l (t.set p.2 p.1)
def fr (n:Nat) (l:List (Nat×V)):Ac:={tmps:=frT l .nil,n:=n,defers:=[],round:=none}
def ifK (v:V) (x y:Rs):Rs:=
 match v with
 | .bool b=>bif b then x else y
 | _=>none
def qdq (L:List Nat) (x:Kt->Ac->St->Rs) (K:Kt) (n:Nat):Ac->St->Rs:=
 Nat.rec (motive:=fun _=>Ac->St->Rs) (fun _ _=>.none) (fun _ ih a s=>x {K with norm:=fun a s=>qb8 L a fun a=>ih a s} a s) n
def endLK (l:Nat) (a:Ac) (s:St) (K:Kt):Rs:=
 (qky s l).bind fun p=>match p.1 with
  | .loop st pend tmps n params assign body=>bif Nat.beq st 2 then none else
   match pend with
   | none=>K.norm a (setO p.2 l (.loop 3 pend tmps n params assign body))
   | some .ret=>K.ret a (setO p.2 l (.loop 3 pend tmps n params assign body))
   | some (.exit id)=>K.exit id a (setO p.2 l (.loop 3 pend tmps n params assign body))
   | some _=>none
  | _=>none
def rangeE (self:EV) (l:Nat) (a:Ac) (K:Kt) (nx:Nx):Rs:=
 match nx with
 | .enter f args s=>onEn (self.f f args s) (fun _ s=>endLK l a s K) (fun v s=>K.pan v a s)
 | _=>none
def allT:List Nat->Tr V->Bool
 | [],_=>true
 | i::L,t=>match t.get i with
  | some _=>allT L t
  | none=>false
def mkR (b:Nat):AD:={mark:=some b,f:=.func 0,captured:=[],args:=[]}
def rangeD (E:Env) (self:EV) (f:Operand) (ps:List Nat) (assign body:Code) (K:Kt) (a:Ac) (s:St):Rs:=
 match a.round with
 | none=>bif allT (roundL ps assign body) a.tmps then(evO E a f).bind fun fv=>
  (qge E fv [.yield (s.next+1)] (nw (nw s .defb) (.loop 0 none (qer ps assign body a.tmps) a.n ps assign body))).bind
   (rangeE self (s.next+1) {a with defers:=mkR s.next::a.defers} K)else none
 | some _=>none
def loopD (L:List Nat) (N:Nat) (x:Kt->Ac->St->Rs) (K:Kt) (a:Ac) (s:St):Rs:=qb8 L a fun a=>qdq L x K N a s
def dr (E:Env) (self:EV) (RL:List Nat) (N:Nat) (d:D):Kt->Ac->St->Rs:=
 D.rec (motive:=fun _=>Kt->Ac->St->Rs)
  (fun K a s=>K.norm a s)
  (fun ops K a s=>opsK E self ops ops.toList K.norm K.pan a s)
  (fun ops K a s=>bif (qas E ops).ok then
   drawK E self ops ops.toList (fun ls a s'=>endK (qas E ops) s ls s' fun s=>K.norm a s) (fun ls v a s'=>panK RL (qas E ops) s ls v a s' K.pan) [] a s else none)
  (fun _ _ x y K a s=>x {K with norm:=fun a s=>y K a s} a s)
  (fun _ L _ x y K a s=>x {K with norm:=fun a s=>qb8 L a fun a=>y K a s} a s)
  (fun c _ _ x y K a s=>(evO E a c).bind fun v=>ifK v (x K a s) (y K a s))
  (fun id _ x K a s=>x {K with exit:=fun i a s=>bif Nat.beq i id then K.norm a s else K.exit i a s} a s)
  (fun L _ x K a s=>loopD L N x K a s)
  (fun id L K a s=>qb8 L a fun a=>K.exit id a s)
  (fun K a s=>K.ret a s)
  (fun _ L x K a s=>x {K with norm:=fun a s=>qb8 L a fun a=>K.norm a s} a s)
  (fun _ x K a s=>x K a s)
  (fun K a s=>K.norm a s)
  (fun f ps x y K a s=>rangeD E self f ps x y K a s)
  (fun _ _ _=>.none) d
def D.l:D->D
 | .seq x _=>x
 | .join x _ _=>x
 | .cond _ x _=>x
 | .block _ x=>x
 | .loop _ x=>x
 | .out x _=>x
 | .scope x=>x
 | d=>d
def D.r:D->D
 | .seq _ y=>y
 | .join _ _ y=>y
 | .cond _ _ y=>y
 | d=>d
def D.ops:D->Array Oper
 | .region ops=>ops
 | .drawn ops=>ops
 | _=>#[]
def cellsOf:List ResultVar->List Nat
 | []=>[]
 | .tmp _::l=>cellsOf l
 | .cell t _::l=>t::cellsOf l
def ldRes (E:Env) (t:TypeId) (v:V) (s:St):Option (V×St):=
 match v with
 | .ptr b off=>loadV E t b off s
 | _=>none
def resK (E:Env) (a:Ac):List ResultVar->(List V->St->Rs)->St->Rs
 | [],k,s=>k [] s
 | .tmp t::l,k,s=>(evO E a (.tmp t)).bind fun v=>resK E a l (fun vs s=>k (v::vs) s) s
 | .cell t ty::l,k,s=>(evO E a (.tmp t)).bind fun v=>(ldRes E ty v s).bind fun p=>resK E a l (fun vs s=>k (p.1::vs) s) p.2
def finR (E:Env) (self:EV) (fn:Func) (a:Ac) (s:St):Rs:=
 match a.defers with
 | []=>resK E a fn.results.toList (fun vs s=>some (.ret (oneOr vs),s)) s
 | d::ds=>qbk E self fn a (d::ds) .ret s
def mkK (E:Env) (self:EV) (fn:Func) (nk:Ac->St->Rs) (ek:Nat->Ac->St->Rs):Kt:=
 { norm:=nk
   ret:=finR E self fn
   exit:=ek
   pan:=fun v a s=>qbk E self fn a a.defers (.pan v) s }
def qbu (E:Env) (self:EV) (fn:Func):Ac->St->Rs:=finR E self fn
def qav:Nat->Ac->St->Rs:=fun _ _ _=>none
def exB (id:Nat) (nk:Ac->St->Rs) (ek:Nat->Ac->St->Rs):Nat->Ac->St->Rs:=fun i a s=>bif Nat.beq i id then nk a s else ek i a s
def qdg (E:Env) (self:EV) (N:Nat) (fn:Func) (d:D) (args:List V) (s:St):Rs:=
 bif Nat.ble args.length fn.ntmps then dr E self (cellsOf fn.results.toList) N d (mkK E self fn (qbu E self fn) qav) (qi1 fn args) s else none
def onS (s:St):St:={s with on:=true,log:=[]}
def qh7 (prs:List (Nat×List Nat)) (s0:St) (logs:List (List LE)) (s:St) (k:St->Rs):Rs:=bif qag logs prs then k (qbh s0 s logs)else none
def callP (r:Rs) (k:V->St->Rs):Rs:=onEn r k fun v s=>some (.pan v,s)
def qlm (pl:Plan) (s0:St) (i:Nat) (logs:List (List LE)) (r:Rs) (k:V->St->Rs):Rs:=
 onEn r k fun v s=>bif qag (logs++[s.log]) pl.prs&&pinOk i (logs++[s.log]) pl.pls&&stays [] pl.pls then some (.pan v,qbh s0 s (logs++[s.log]))else none
def partR (g:Bool) (k n:Nat) (cs:Tr V) (off:Nat):Option V:=
 bif g then bif Nat.ble (off+k) n then some (.agg k (qdl cs off k 0 .nil))else none else bif Nat.blt off n then cs.get off else none
def faP (off:Nat) (g:Bool) (k:Nat) (v:V):Option V:=
 bif Nat.beq k 0 then none else
  match v with
  | .ptr b o=>some (.ptr b (o+off))
  | .cptr (.agg n cs)=>(partR g k n cs off).bind fun v=>some (.cptr v)
  | _=>none
def ixP (z:Nat) (v vi:V):Option V:=(qdv vi).bind fun n=>elemPtr z n v
def ixV (len z:Nat) (g:Bool) (k:Nat) (v vi:V):Option V:=
 (qdv vi).bind fun n=>
  match v with
  | .agg m cs=>bif Nat.blt n len then partR g k m cs (n*z)else none
  | _=>none
def ixS (v vi:V):Option V:=(qdv vi).bind fun n=>byteAt v n
def qbw (x:V) (s:St):Option (V×St):=
 match x with
 | .str n _=>some (.int .i64 (.ofNat n),s)
 | _=>none
def lnS (x:V) (s:St):Option (V×St):=
 match x with
 | .str _ _=>none
 | x=>(lenV x).bind fun n=>some (.int .i64 (.ofNat n),s)
def apP (e size bytes:Nat) (x y:V) (s:St):Option (V×St):=
 (lenV y).bind fun n=>(lenV x).bind fun m=>bif Nat.blt ((m+n)*(bytes+size+1)) qai then qcs e size n x y s else none
def cpP (size:Nat) (x y:V) (s:St):Option (V×St):=
 (lenV x).bind fun m=>(lenV y).bind fun k=>(qb7 size (Nat.min k m) y s).bind fun p=>qlr size x (Nat.min k m) p.1 p.2
def nwP (t n:Nat) (z:Tr V) (s:St):V×St:=(.ptr s.next 0,qan s t n [z])
def bsP (e size len:Nat) (z:Tr V) (ps:List (Nat×V)) (s:St):Option (V×St):=
 (qgi len size (Tr.tab len len fun _=>z) ps).bind fun l=>some (.slice s.next 0 len len,nw s (.cells e size len false l))
def ld1 (v:V) (s:St):Option (V×St):=
 match v with
 | .ptr b off=>ld s b off
 | .cptr u=>bif !isAgg u&&!qaa u then some (u,s)else none
 | _=>none
def ldA (n:Nat) (v:V) (s:St):Option (V×St):=
 match v with
 | .ptr b off=>(ldK s b off n).bind fun p=>some (.agg n p.1,p.2)
 | .cptr u=>bif (isAgg u&&Nat.beq u.size n)&&!qaa u then some (u,s)else none
 | _=>none
def ldr1 (v:V) (s:St):Option (V×St):=
 match v with
 | .ptr b off=>ld s b off
 | _=>none
def ldrA (n:Nat) (v:V) (s:St):Option (V×St):=
 match v with
 | .ptr b off=>(ldK s b off n).bind fun p=>some (.agg n p.1,p.2)
 | _=>none
def stP (n:Nat) (p v:V) (s:St):Option (V×St):=
 match p with
 | .ptr b off=>vu (bif Nat.beq v.size n&&!qaa v then stK s b off n v.cells else none)
 | _=>none
def cvI (k:IntKind) (v:V) (s:St):Option (V×St):=
 match v with
 | .int _ n=>some (.int k (wrapF k n),s)
 | _=>none
def sv (l:List UInt8):V:=.str l.length (qb0 l)
end
structure ALe (a b:Ac):Prop where
 n:a.n=b.n
 defers:a.defers=b.defers
 round:a.round=b.round
 tmps:∀t v,a.tmps.get t=some v->b.tmps.get t=some v
theorem ALe.refl (a:Ac):ALe a a:=⟨rfl,rfl,rfl,fun _ _ h=>h⟩
section
variable {E:Env} {self:EV} {a b:Ac} {s:St}
theorem qaf (h:ALe a b) {x:Operand} {v:V} (hx:evO E a x=some v):evO E b x=some v:=by
 cases x with
 | tmp t=>
  have h1:(getP (bits t t)).run a.tmps=some v:=hx;show(getP (bits t t)).run b.tmps=some v;rw[qi2]at h1 ⊢;exact h.tmps t v h1
 | const c=>exact hx
 | global g=>exact hx
 | func f=>exact hx
theorem qf2 (h:ALe a b):∀{l:List Operand} {vs:List V},qcn E a l=some vs->qcn E b l=some vs
 | [],vs,e=>e
 | x::l,vs,e=>by
  simp only[qcn,oI,oS]at e ⊢;obtain⟨v,hv,r,hr,rfl⟩:=e;exact⟨v,qaf h hv,r,qf2 h hr,rfl⟩
theorem qms (h:ALe a b):∀{l:List (Nat×Operand)} {vs:List (Nat×V)},qei E a l=some vs->qei E b l=some vs
 | [],vs,e=>e
 | (i,x)::l,vs,e=>by
  simp only[qei,oI,oS]at e ⊢;obtain⟨v,hv,r,hr,rfl⟩:=e;exact⟨v,qaf h hv,r,qms h hr,rfl⟩
theorem qku (h:ALe a b) {x:Option Operand} {v:Option V} (e:qg6 E a x=some v):qg6 E b x=some v:=by
 cases x with
 | none=>exact e
 | some x=>
  simp only[qg6,oI,oS]at e ⊢;obtain⟨v,hv,rfl⟩:=e;exact⟨v,qaf h hv,rfl⟩
theorem qa6 {α β:Type} {x y:Option α} {f g:α->Option β} {r:β} (h:x.bind f=some r) (h1:∀v,x=some v->y=some v) (h2:∀v,f v=some r->g v=some r):y.bind g=some r:=by
 simp only[oI]at h ⊢;obtain⟨v,hv,hf⟩:=h;exact⟨v,h1 v hv,h2 v hf⟩
theorem opV_le (h:ALe a b) {op:Op} {v:V} (e:opV E a op=some v):opV E b op=some v:=by
 cases op<;>simp only[opV,reduceCtorEq]at e ⊢
 case move x=>exact qaf h e
 case assign x=>exact qaf h e
 case pick c x y=>
  refine qa6 e (fun _=>qaf h) fun vc hp=>?_;unfold qao at hp ⊢;cases vc<;>simp only[reduceCtorEq]at hp ⊢;rename_i t;cases t
  . exact qaf h hp
  . exact qaf h hp
 case build t ps=>exact qa6 e (fun _=>qms h) fun _ hp=>hp
 case nilCheck x=>exact qa6 e (fun _=>qaf h) fun _ hp=>hp
 case binOp=>exact qa6 e (fun _=>qaf h) fun _ hp=>qa6 hp (fun _=>qaf h) fun _ hp=>hp
 case unOp=>exact qa6 e (fun _=>qaf h) fun _ hp=>hp
 case makeInterface=>exact qa6 e (fun _=>qaf h) fun _ hp=>hp
 case makeFunc=>exact qa6 e (fun _=>qf2 h) fun _ hp=>qa6 hp (fun _=>qf2 h) fun _ hp=>hp
 case fieldAddr=>exact qa6 e (fun _=>qaf h) fun _ hp=>hp
 case field=>exact qa6 e (fun _=>qaf h) fun _ hp=>hp
 case indexAddr=>exact qa6 e (fun _=>qaf h) fun _ hp=>qa6 hp (fun _=>qaf h) fun _ hp=>hp
 case index=>exact qa6 e (fun _=>qaf h) fun _ hp=>qa6 hp (fun _=>qaf h) fun _ hp=>hp
 case typeAssert=>exact qa6 e (fun _=>qaf h) fun _ hp=>hp
 case extract=>exact qa6 e (fun _=>qaf h) fun _ hp=>hp
theorem builtinS_le (h:ALe a b) {bu:Builtin} {ts:List TypeId} {l:List Operand} {q:V×St} (e:qh3 E a s bu ts l=some q):qh3 E b s bu ts l=some q:=by
 unfold qh3 at e ⊢
 split at e<;>first
  | cases e
  | exact qa6 e (fun _=>qaf h) fun _ hp=>hp
  | exact qa6 e (fun _=>qaf h) fun _ hp=>qa6 hp (fun _=>qaf h) fun _ hp=>hp
  | exact qa6 e (fun _=>qaf h) fun _ hp=>qa6 hp (fun _=>qf2 h) fun _ hp=>hp
theorem opS_le (h:ALe a b) {op:Op} {q:V×St} (e:opS E a s op=some q):opS E b s op=some q:=by
 cases op<;>simp only[opS,reduceCtorEq]at e ⊢
 case alloc t=>exact e
 case box=>exact qa6 e (fun _=>qaf h) fun _ hp=>hp
 case buildSlice=>exact qa6 e (fun _=>qms h) fun _ hp=>hp
 case load=>exact qa6 e (fun _=>qaf h) fun _ hp=>hp
 case store=>exact qa6 e (fun _=>qaf h) fun _ hp=>qa6 hp (fun _=>qaf h) fun _ hp=>hp
 case convert=>exact qa6 e (fun _=>qaf h) fun _ hp=>hp
 case makeMap=>exact qa6 e (fun _=>qku h) fun _ hp=>hp
 case makeSlice=>exact qa6 e (fun _=>qaf h) fun _ hp=>qa6 hp (fun _=>qaf h) fun _ hp=>hp
 case slice=>exact qa6 e (fun _=>qaf h) fun _ hp=>qa6 hp (fun _=>qku h) fun _ hp=>qa6 hp (fun _=>qku h) fun _ hp=>qa6 hp (fun _=>qku h) fun _ hp=>hp
 case lookup=>exact qa6 e (fun _=>qaf h) fun _ hp=>qa6 hp (fun _=>qaf h) fun _ hp=>hp
 case mapUpdate=>exact qa6 e (fun _=>qaf h) fun _ hp=>qa6 hp (fun _=>qaf h) fun _ hp=>qa6 hp (fun _=>qaf h) fun _ hp=>hp
 case insert=>exact qa6 e (fun _=>qaf h) fun _ hp=>qa6 hp (fun _=>qaf h) fun _ hp=>qa6 hp (fun _=>qaf h) fun _ hp=>hp
 case mapEntry=>exact qa6 e (fun _=>qaf h) fun _ hp=>qa6 hp (fun _=>qaf h) fun _ hp=>hp
 case entryStore=>exact qa6 e (fun _=>qaf h) fun _ hp=>qa6 hp (fun _=>qaf h) fun _ hp=>qa6 hp (fun _=>qaf h) fun _ hp=>hp
 case range=>exact qa6 e (fun _=>qaf h) fun _ hp=>hp
 case next=>exact qa6 e (fun _=>qaf h) fun _ hp=>hp
 case call c=>
  split at e
  . rename_i bu hb; exact builtinS_le h e
  . cases e
theorem opC_le (h:ALe a b) {op:Op} {q:En×St} (e:opC E self a s op=some q):opC E self b s op=some q:=by
 cases op<;>simp only[opC,reduceCtorEq]at e ⊢
 case call c=>
  split at e
  . exact qa6 e (fun _=>qaf h) fun _ hp=>qa6 hp (fun _=>qf2 h) fun _ hp=>hp
  . split at e
    . rename_i x hx; exact qa6 e (fun _=>qaf h) fun _ hp=>hp
    . cases e
  . cases e
 case panic x=>exact qa6 e (fun _=>qaf h) fun _ hp=>hp
theorem opV_run {op:Op} {v:V} (e:opV E a op=some v):(opF E op).run a s=some (.val v s):=by
 cases op<;>simp only[opV,reduceCtorEq]at e
 case move x=>show pS (evO E a x) s=_; rw[e]; rfl
 case assign x=>show pS (evO E a x) s=_; rw[e]; rfl
 case pick c x y=>
  show oPick E c x y a s=_;simp only[oI]at e;obtain⟨vc,hc,hp⟩:=e;unfold oPick;rw[hc];unfold qao at hp;cases vc<;>simp only[reduceCtorEq]at hp;rename_i t;cases t
  . simp only[oB,cF]at hp ⊢; rw[hp]; rfl
  . simp only[oB,cT]at hp ⊢; rw[hp]; rfl
 case build t ps=>
  show qhn E t ps.toList a s=_;simp only[oI]at e;obtain⟨vs,h1,h2⟩:=e;unfold qhn; rw[h1]; simp only[oB]; rw[h2]; rfl
 case nilCheck x=>
  show qcp E x a s=_;simp only[oI]at e;obtain⟨u,h1,h2⟩:=e;unfold qcp; rw[h1];unfold qa1 at h2;cases hn:qmf u with
  | false=>rw[hn]at h2; cases h2
  | true=>rw[hn]at h2; simp only[cT,oS]at h2; subst h2; simp[hn]
 case binOp op t x y t2=>
  show oBin E op t x y a s=_;simp only[oI]at e;obtain⟨vx,h1,vy,h2,h3⟩:=e;unfold oBin; rw[h1,h2]; simp only[oB]; rw[h3]; rfl
 case unOp op t x=>
  show oUn E op x a s=_;simp only[oI]at e;obtain⟨vx,h1,h3⟩:=e;unfold oUn; rw[h1]; simp only[oB]; rw[h3]; rfl
 case makeInterface t x=>
  show qbz E t x a s=_;simp only[oI]at e;obtain⟨vx,h1,h3⟩:=e;unfold makeIfaceV at h3;simp only[oI]at h3;obtain⟨d,hd,h3⟩:=h3;unfold qbz; rw[hd,h1]; simp only[oB];cases hn:qbr d with
  | false=>rw[hn]at h3; cases h3
  | true=>rw[hn]at h3; simp only[cT,oS]at h3; subst h3; simp
 case makeFunc fn x y=>
  show qco E fn x.toList y.toList a s=_;simp only[oI,oS]at e;obtain⟨vx,h1,vy,h2,rfl⟩:=e;unfold qco; rw[h1,h2]; rfl
 case fieldAddr t x f=>
  show qbx E t x f a s=_;simp only[oI]at e;obtain⟨u,h1,h2⟩:=e;unfold fieldAddrV at h2;simp only[oI]at h2;obtain⟨p,hp,h2⟩:=h2;unfold qbx; rw[hp,h1]; simp only[oB];cases hz:Nat.beq p.2.2 0 with
  | true=>rw[hz]at h2; cases h2
  | false=>
   rw[hz]at h2;simp only[cF]at h2 ⊢;cases u<;>try simp only[reduceCtorEq,oS]at h2 ⊢
   . subst h2; rfl
   . rename_i u
     cases u<;>try simp only[reduceCtorEq]at h2 ⊢
     simp only[oI,oS]at h2;obtain⟨w,hw,rfl⟩:=h2;rw[hw]; rfl
 case field t x f=>
  show qhp E t x f a s=_;simp only[oI]at e;obtain⟨u,h1,h2⟩:=e;unfold fieldV at h2;simp only[oI]at h2;obtain⟨p,hp,h2⟩:=h2;unfold qhp; rw[hp,h1]; simp only[oB];cases u<;>try simp only[reduceCtorEq]at h2 ⊢
  rw[h2]; rfl
 case indexAddr t x i=>
  show qby E t x i a s=_;simp only[oI]at e;obtain⟨vi,h1,u,h2,h3⟩:=e;unfold indexAddrK at h3;simp only[oI]at h3;obtain⟨d,hd,h3⟩:=h3;unfold qby; rw[hd,h1,h2]; simp only[oB];unfold qh9;split at h3
  . simp only[oI]at h3
    obtain⟨z,hz,n,hn,h3⟩:=h3;rw[hn]; simp only[oB]; rw[hz]; simp only[oB];unfold arrayPtr at h3;cases u<;>try simp only[reduceCtorEq]at h3 ⊢
    . unfold qg0
      cases hc:Nat.blt n _ with
      | false=>rw[hc]at h3; cases h3
      | true=>rw[hc]at h3; simp only[cT,oS]at h3 ⊢; subst h3; rfl
    . rename_i u
      cases u<;>try simp only[reduceCtorEq]at h3 ⊢
      cases hc:(Nat.blt n _&&Nat.blt 0 z)with
      | false=>rw[hc]at h3; cases h3
      | true=>
       rw[hc]at h3; simp only[cT,oI,oS]at h3 ⊢;obtain⟨w,hw,rfl⟩:=h3;exact⟨w,hw,rfl⟩
  . simp only[oI]at h3
    obtain⟨z,hz,n,hn,h3⟩:=h3;rw[hn]; simp only[oB]; rw[hz]; simp only[oB];unfold elemPtr at h3;cases u<;>try simp only[reduceCtorEq]at h3 ⊢
    . unfold qg0
      cases hc:Nat.blt n _ with
      | false=>rw[hc]at h3; cases h3
      | true=>rw[hc]at h3; simp only[cT,oS]at h3 ⊢; subst h3; rfl
    . unfold qg0
      cases hc:Nat.blt n _ with
      | false=>rw[hc]at h3; cases h3
      | true=>rw[hc]at h3; simp only[cT,oS]at h3 ⊢; subst h3; rfl
    . cases hc:(Nat.beq z _&&Nat.blt 0 z)with
      | false=>rw[hc]at h3; cases h3
      | true=>
       rw[hc]at h3; simp only[cT,oI,oS]at h3 ⊢;obtain⟨w,hw,rfl⟩:=h3;exact⟨w,hw,rfl⟩
  . cases h3
 case index t x i=>
  show qhq E t x i a s=_;simp only[oI]at e;obtain⟨vi,h1,u,h2,h3⟩:=e;unfold indexK at h3;simp only[oI]at h3;obtain⟨d,hd,h3⟩:=h3;unfold qhq; rw[hd,h1,h2]; simp only[oB];unfold indexV;split at h3
  . simp only[oI]at h3
    obtain⟨z,hz,n,hn,h3⟩:=h3;rw[hn]; simp only[oB];unfold partAt at h3;cases u<;>try simp only[reduceCtorEq]at h3 ⊢
    rw[hz]; simp only[oB];cases hc:Nat.blt n _ with
    | false=>rw[hc]at h3; cases h3
    | true=>rw[hc]at h3; simp only[cT]at h3 ⊢; rw[h3]; rfl
  . simp only[oI]at h3
    obtain⟨n,hn,h3⟩:=h3;rw[hn]; simp only[oB];unfold byteAt at h3;cases u<;>try simp only[reduceCtorEq]at h3 ⊢
    cases hc:Nat.blt n _ with
    | false=>rw[hc]at h3; cases h3
    | true=>rw[hc]at h3; simp only[cT,oS]at h3 ⊢; subst h3; rfl
  . cases h3
 case typeAssert x xt t ok=>
  show qes E x t ok a s=_;simp only[oI]at e;obtain⟨u,h1,h3⟩:=e;unfold qlg at h3;simp only[oI]at h3;obtain⟨d,hd,h3⟩:=h3;unfold qes; rw[hd,h1]; simp only[oB]
  have hno:∀{v},qij E t ok=some v->qde E t ok s=some (.val v s):=fun{v} h=>by
   unfold qij at h; unfold qde;cases ok with
   | false=>cases h
   | true=>
    simp only[cT,oI,oS]at h ⊢;obtain⟨z,hz,rfl⟩:=h;exact⟨z,hz,rfl⟩
  cases hn:qbr d with
  | false=>rw[hn]at h3; cases h3
  | true=>
   rw[hn]at h3;simp only[cT]at h3 ⊢;unfold assertV;cases u<;>try simp only[reduceCtorEq]at h3 ⊢
   . rename_i u w
     cases hb:Nat.beq u t with
     | false=>rw[hb]at h3; simp only[cF]at h3 ⊢; exact hno h3
     | true=>rw[hb]at h3; simp only[cT,oS]at h3 ⊢; subst h3; rfl
   . exact hno h3
 case extract x i=>
  show qdf E x i a s=_;simp only[oI]at e;obtain⟨u,h1,h3⟩:=e;unfold qdf; rw[h1]; simp only[oB];unfold qac at h3;cases u<;>try simp only[reduceCtorEq]at h3 ⊢
  rw[h3]; rfl
theorem vu_inv {r:Option St} {v:V} {s':St} (h:vu r=some (v,s')):uS r=some (.val v s'):=by
 unfold vu at h;simp only[oI,oS,pM]at h;obtain⟨u,rfl,rfl,rfl⟩:=h;rfl
theorem vS_of {r:Option (V×St)} {v:V} {s':St} (h:r=some (v,s')):vS r=some (.val v s'):=by rw[h]; rfl
theorem builtinS_run {bu:Builtin} {ts:List TypeId} {l:List Operand} {v:V} {s':St} (e:qh3 E a s bu ts l=some (v,s')):(qa8 E bu ts l).run a s=some (.val v s'):=by
 unfold qh3 at e;split at e
 . rename_i t _ x
   show bLen E t x a s=_;simp only[oI]at e;obtain⟨u,h1,h2⟩:=e;unfold lenK at h2;simp only[oI]at h2;obtain⟨d,hd,h2⟩:=h2;unfold bLen; rw[hd,h1]; simp only[oB];unfold lenAny;split at h2
   . simp only[oS,pM]at h2; obtain⟨rfl,rfl⟩:=h2; rfl
   . rename_i e1
     simp only[oI]at h2;obtain⟨d2,hd2,h2⟩:=h2;simp only[hd2,oB];split at h2
     . simp only[oS,pM]at h2; obtain⟨rfl,rfl⟩:=h2; rfl
     . cases h2
   . cases u<;>try simp only[reduceCtorEq,oS,pM]at h2 ⊢
     obtain⟨rfl,rfl⟩:=h2; rfl
   . cases u<;>try simp only[lenV,reduceCtorEq,oB,Option.bind_none,oS,pM]at h2 ⊢<;>(obtain⟨rfl,rfl⟩:=h2; rfl)
   . cases u<;>try simp only[reduceCtorEq,oS,pM]at h2 ⊢
     . simp only[oI]at h2
       obtain⟨p,hp,h2⟩:=h2;rw[hp]; simp only[oB];split at h2
       . rename_i es c hq; rw[hq]; simp only[oS,pM]at h2; obtain⟨rfl,rfl⟩:=h2; rfl
       . cases h2
     . obtain⟨rfl,rfl⟩:=h2; rfl
   . cases h2
 . rename_i t t2 _ x y
   show qgc E t t2 x y a s=_;simp only[oI]at e;obtain⟨vx,h1,vy,h2,h3⟩:=e;unfold appendK at h3;simp only[oI]at h3;obtain⟨q,hq,d2,hd,h3⟩:=h3;unfold qgc; rw[hq,hd]; simp only[oB];cases hc:(qdt d2&&qbl E q.1 q.2.1)with
   | false=>
    rw[hc]at h3;simp only[cF]at h3 ⊢;cases hc2:(!qdt d2&&qbl E q.1 q.2.1)with
    | false=>rw[hc2]at h3; cases h3
    | true=>
     rw[hc2]at h3;simp only[cT]at h3 ⊢;rw[h1,h2]; simp only[oB];exact vS_of h3
   | true=>
    rw[hc]at h3;simp only[cT,oI]at h3;obtain⟨n,hn,m,hm,h3⟩:=h3;simp only[cT];rw[h1,h2]; simp only[oB];unfold qkp;rw[hn,hm]; simp only[oB];cases hb:Nat.blt ((m+n)*(q.2.2+q.2.1+1)) qai with
    | false=>rw[hb]at h3; cases h3
    | true=>rw[hb]at h3; simp only[cT]at h3 ⊢; exact vS_of h3
 . rename_i t _ x y
   show bCopy E t x y a s=_;simp only[oI]at e;obtain⟨vx,h1,vy,h2,h3⟩:=e;unfold copyK at h3;simp only[oI]at h3;obtain⟨q,hq,m,hm,k,hk,p,hp,h3⟩:=h3;unfold bCopy; rw[hq,h1,h2]; simp only[oB];unfold copyAt;rw[hm,hk]; simp only[oB]; rw[hp]; simp only[oB];unfold qlr at h3; unfold qin;cases vx<;>simp only[reduceCtorEq,oS,pM]at h3 ⊢
   . simp only[oI,oS,pM]at h3
     obtain⟨s1,hs,rfl,rfl⟩:=h3;rw[hs]; rfl
   . simp only[oI,oS,pM]at h3
     obtain⟨s1,hs,rfl,rfl⟩:=h3;rw[hs]; rfl
   . obtain⟨rfl,rfl⟩:=h3; rfl
   . obtain⟨rfl,rfl⟩:=h3; rfl
 . rename_i t _ x y
   show qgd E t x y a s=_;simp only[oI]at e;obtain⟨vx,h1,vy,h2,h3⟩:=e;unfold qgd; rw[h1,h2]; exact vu_inv h3
 . rename_i x l
   show qik E minV x l a s=_;simp only[oI]at e;obtain⟨vx,h1,vy,h2,h3⟩:=e;unfold qki at h3;simp only[oI,oS,pM]at h3;obtain⟨u,hu,rfl,rfl⟩:=h3;unfold qik; rw[h1,h2]; simp only[oB]; rw[hu]; rfl
 . rename_i x l
   show qik E maxV x l a s=_;simp only[oI]at e;obtain⟨vx,h1,vy,h2,h3⟩:=e;unfold qki at h3;simp only[oI,oS,pM]at h3;obtain⟨u,hu,rfl,rfl⟩:=h3;unfold qik; rw[h1,h2]; simp only[oB]; rw[hu]; rfl
 . rename_i t _ x
   show bCap E t x a s=_;simp only[oI]at e;obtain⟨u,h1,h2⟩:=e;unfold capK at h2;simp only[oI]at h2;obtain⟨d,hd,h2⟩:=h2;unfold bCap; rw[hd]; simp only[oB];cases d<;>try cases h2
   rw[h1]; simp only[oB];unfold capP at h2;cases u<;>simp only[reduceCtorEq,oS,pM]at h2 ⊢<;>(obtain⟨rfl,rfl⟩:=h2; rfl)
 . cases e
theorem opS_run {op:Op} {v:V} {s':St} (e:opS E a s op=some (v,s')):(opF E op).run a s=some (.val v s'):=by
 cases op<;>simp only[opS,reduceCtorEq]at e
 case alloc t=>
  show qmh E t a s=_;unfold allocK at e;simp only[oI,oS,pM]at e;obtain⟨z,hz,rfl,rfl⟩:=e;unfold qmh; rw[hz]; rfl
 case box t x=>
  show oBox E t x a s=_;simp only[oI]at e;obtain⟨u,h1,h2⟩:=e;unfold boxK at h2;unfold oBox; rw[h1]; simp only[oB];cases ht:qaa u with
  | true=>rw[ht]at h2; cases h2
  | false=>rw[ht]at h2; simp only[cF,oS,pM]at h2; obtain⟨rfl,rfl⟩:=h2; rfl
 case buildSlice t len ps=>
  show qcd E t len ps.toList a s=_;simp only[oI]at e;obtain⟨vs,h1,h2⟩:=e;unfold qlk at h2;simp only[oI]at h2;obtain⟨q,hq,h2⟩:=h2;unfold qcd; rw[hq]; simp only[oB];cases hb:Nat.ble (len*q.2.1) 65536 with
  | false=>rw[hb]at h2; cases h2
  | true=>
   rw[hb]at h2;simp only[cT,oI]at h2;obtain⟨z,hz,h2⟩:=h2;simp only[cT];rw[hz]; simp only[oB]; rw[h1]; simp only[oB];cases hc:(Nat.beq z.size q.2.1&&Nat.blt 0 q.2.1)with
   | false=>rw[hc]at h2; cases h2
   | true=>
    rw[hc]at h2;simp only[cT,oI,oS,pM]at h2 ⊢;obtain⟨l,hl,rfl,rfl⟩:=h2;exact⟨l,hl,rfl⟩
 case load t x=>
  show oLoad E t x a s=_;simp only[oI]at e;obtain⟨u,h1,h2⟩:=e;unfold loadK at h2;unfold oLoad; rw[h1]; simp only[oB];cases u<;>try simp only[reduceCtorEq]at h2 ⊢
  . exact vS_of h2
  . rename_i u
    cases hf:fitsT E t u with
    | false=>rw[hf]at h2; cases h2
    | true=>rw[hf]at h2; simp only[cT,oS,pM]at h2 ⊢; obtain⟨rfl,rfl⟩:=h2; rfl
 case store t x y=>
  show qk9 E t x y a s=_;simp only[oI]at e;obtain⟨u,h1,w,h2,h3⟩:=e;unfold storeK at h3;unfold qk9; rw[h1]; simp only[oB];cases u<;>try simp only[reduceCtorEq]at h3 ⊢
  rw[h2]; exact vu_inv h3
 case convert src dst x=>
  show qeg E src dst x a s=_;simp only[oI]at e;obtain⟨u,h1,h2⟩:=e;unfold qeg; rw[h1]; exact vS_of h2
 case makeMap t r=>
  show qeh E t r a s=_;simp only[oI]at e;obtain⟨u,h1,h2⟩:=e;unfold makeMapK at h2;cases r with
  | none=>
   simp only[qg6,oS]at h1; subst h1;simp only[oS,pM]at h2; obtain⟨rfl,rfl⟩:=h2; rfl
  | some x=>
   simp only[qg6,oI,oS]at h1;obtain⟨w,hw,rfl⟩:=h1;simp only[oI]at h2;obtain⟨d,hd,h2⟩:=h2;unfold qeh; simp only; rw[hd,hw]; simp only[oB];cases hc:(isMapT d&&isInt w)with
   | false=>rw[hc]at h2; cases h2
   | true=>rw[hc]at h2; simp only[cT,oS,pM]at h2 ⊢; obtain⟨rfl,rfl⟩:=h2; rfl
 case makeSlice t l c=>
  show qcu E t l c a s=_;simp only[oI]at e;obtain⟨vl,h1,vc,h2,h3⟩:=e;unfold makeSliceK at h3;simp only[oI]at h3;obtain⟨q,hq,n,hn,m,hm,h3⟩:=h3;unfold qcu; rw[hq]; simp only[oB]; rw[h1]; simp only[oB]; rw[hn]; simp only[oB]; rw[h2]; simp only[oB]; rw[hm]; simp only[oB];unfold makeAtK at h3; unfold makeAt;cases hb:(Nat.ble n m&&Nat.blt (m*(q.2.2+q.2.1+1)) qai)with
  | false=>rw[hb]at h3; cases h3
  | true=>
   rw[hb]at h3;simp only[cT,oI]at h3 ⊢;obtain⟨z,hz,h3⟩:=h3;refine⟨z,hz,?_⟩;cases hc:Nat.beq z.size q.2.1 with
   | false=>rw[hc]at h3; cases h3
   | true=>rw[hc]at h3; simp only[cT,oS,pM]at h3 ⊢; obtain⟨rfl,rfl⟩:=h3; rfl
 case slice t x lo hi mx=>
  show qk8 E t x lo hi mx a s=_;simp only[oI]at e;obtain⟨u,h1,l,h2,h,h3,m,h4,h5⟩:=e;unfold qk8; rw[h1]; simp only[oB]; rw[h2,h3,h4]; exact vS_of h5
 case lookup t x i ok=>
  show qgp E t x i ok a s=_;simp only[oI]at e;obtain⟨u,h1,l,h2,h3⟩:=e;unfold qgp; rw[h1,h2]; exact vS_of h3
 case mapUpdate t m k x=>
  show qd1 E t m k x a s=_;simp only[oI]at e;obtain⟨u,h1,l,h2,w,h3,h4⟩:=e;unfold qd1; rw[h1,h2,h3]; exact vu_inv h4
 case insert t m k x=>
  show qd1 E t m k x a s=_;simp only[oI]at e;obtain⟨u,h1,l,h2,w,h3,h4⟩:=e;unfold qd1; rw[h1,h2,h3]; exact vu_inv h4
 case mapEntry t m k=>
  show qk6 E t m k a s=_;simp only[oI]at e;obtain⟨u,h1,l,h2,h3⟩:=e;unfold qk6; rw[h1,h2]; exact vS_of h3
 case entryStore t m k x=>
  show qce E m k x a s=_;simp only[oI]at e;obtain⟨u,h1,l,h2,w,h3,h4⟩:=e;unfold qce; rw[h1,h2,h3]; exact vu_inv h4
 case range t x=>
  show qk7 E t x a s=_;simp only[oI]at e;obtain⟨u,h1,h2⟩:=e;unfold rangeStrK at h2;simp only[oI]at h2;obtain⟨d,hd,h2⟩:=h2;unfold qk7; rw[hd]; simp only[oB];split at h2
  . rw[h1]; simp only[oB]
    cases u<;>try simp only[reduceCtorEq,oS,pM]at h2 ⊢
    obtain⟨rfl,rfl⟩:=h2; rfl
  . cases h2
 case next x st=>
  show oNext E x st a s=_;simp only[oI]at e;obtain⟨u,h1,h2⟩:=e;unfold nextK at h2;unfold oNext;cases st with
  | false=>cases h2
  | true=>
   simp only[cT]at h2 ⊢;rw[h1]; simp only[oB];cases u<;>try simp only[reduceCtorEq]at h2 ⊢
   rename_i bb off;cases ho:Nat.beq off 0 with
   | false=>rw[ho]at h2; cases h2
   | true=>
    rw[ho]at h2;simp only[cT,oI]at h2;obtain⟨p,hp,h2⟩:=h2;simp only[cT];unfold nextV; rw[hp]; simp only[oB];split at h2
    . rename_i l n pos hq
      rw[hq]; simp only;cases hl:Nat.blt pos l with
      | false=>rw[hl]at h2; simp only[cF,oS,pM]at h2 ⊢; obtain⟨rfl,rfl⟩:=h2; rfl
      | true=>rw[hl]at h2; simp only[cT,oS,pM]at h2 ⊢; obtain⟨rfl,rfl⟩:=h2; rfl
    . cases h2
 case call c=>
  simp only[opF];split at e
  . rename_i bu hb; rw[hb]; exact builtinS_run e
  . cases e
theorem opC_run {op:Op} {e:En} {s':St} (h:opC E self a s op=some (e,s')) :
 (∃f args s1,(opF E op).run a s=some (.enter f args s1)/\self.f f args s1=some (e,s'))\/(∃l args s1,(opF E op).run a s=some (.round l args s1)/\self.r l args s1=some (e,s'))\/
 (∃v,(opF E op).run a s=some (.val v s')/\e=.ret v)\/(∃v,(opF E op).run a s=some (.pan v s')/\e=.pan v):=by
 have pan:∀{x:Operand},((evO E a x).bind fun v=>qkc v s)=some (e,s')->∃v,qg4 E x a s=some (.pan v s')/\e=.pan v:=fun{x} h=>by
  simp only[oI]at h;obtain⟨u,h1,h2⟩:=h;unfold qkc at h2;unfold qg4; rw[h1]; simp only[oB];cases u<;>try simp only[reduceCtorEq,oS,pM]at h2 ⊢
  obtain⟨rfl,rfl⟩:=h2;exact⟨_,rfl,rfl⟩
 cases op<;>simp only[opC,reduceCtorEq]at h
 case call c=>
  simp only[opF];split at h
  . rename_i f hf
    simp only[oI]at h;obtain⟨fv,h1,vs,h2,h3⟩:=h;simp only[hf];show(∃f' args s1,qmj E f c.args.toList a s=_/\_)\/(∃l args s1,qmj E f c.args.toList a s=_/\_)\/(∃v,qmj E f c.args.toList a s=_/\_)\/(∃v,qmj E f c.args.toList a s=_/\_)
    unfold qmj; rw[h1,h2]; simp only[oB];unfold qbo at h3; unfold qge;cases fv<;>try (simp only[reduceCtorEq]at h3; done)
    . rename_i g x y
      cases g<;>try (simp only[reduceCtorEq]at h3; done)
      simp only at h3 ⊢;unfold extOr;split at h3
      . rename_i k hk
        rw[hk]; simp only;simp only[oI]at h3;obtain⟨nx,hn,h3⟩:=h3;cases nx<;>simp only[reduceCtorEq,oS,pM]at h3;obtain⟨rfl,rfl⟩:=h3;exact .inr (.inr (.inl ⟨_,hn,rfl⟩))
      . rename_i hk
        rw[hk]; simp only;rename_i g _;cases hb:qd9 E g with
        | false=>rw[hb]at h3; cases h3
        | true=>rw[hb]at h3; exact .inl ⟨_,_,_,rfl,h3⟩
    . exact .inr (.inl ⟨_,_,_,rfl,h3⟩)
  . rename_i hb
    simp only[hb];split at h
    . rename_i x hx
      obtain⟨v,h1,h2⟩:=pan h;rw[hx];exact .inr (.inr (.inr ⟨v,h1,h2⟩))
    . cases h
  . cases h
 case panic x=>
  obtain⟨v,h1,h2⟩:=pan h;exact .inr (.inr (.inr ⟨v,h1,h2⟩))
end
section
variable {E:Env} {self:EV} {a b:Ac} {s:St} {r:En×St}
theorem qhd (h:ALe a b) {d:Option Tmp} {v:V} {k:Ac->Rs} (e:putK d a v k=some r):∃a' b',(qjc d).run b v=some b'/\ALe a' b'/\b'.defers=b.defers/\k a'=some r:=by
 cases d with
 | none=>exact⟨a,b,rfl,h,rfl,e⟩
 | some d=>
  unfold putK at e;simp only at e;cases hc:Nat.blt d a.n with
  | false=>rw[hc]at e; cases e
  | true=>
   rw[hc]at e;simp only[cT]at e
   have hb:(qjc (some d)).run b v=some {b with tmps:=(setP (bits d d)).run v b.tmps}:=by
    show putAt (setPC (bits d d)) d b v=_;rw[ql4,<- h.n,hc]; rfl
   refine⟨{a with tmps:=a.tmps.set v d},_,hb,⟨h.n,h.defers,h.round,fun t u ht=>?_⟩,rfl,e⟩;have ht':(a.tmps.set v d).get t=some u:=ht;show((setP (bits d d)).run v b.tmps).get t=some u;rw[qn4 d d _ _ _ (lR _)];rw[Tr.get_set]at ht';by_cases hd:t=d
   . rw[iP hd]at ht' ⊢; exact ht'
   . rw[iN hd]at ht' ⊢; exact h.tmps t u ht'
def Both (E:Env) (self:EV) (a b:Ac) (r:En×St) (run:Option (X×Ac×St)) (k:Ac->St->Rs) (p:V->Ac->St->Rs):Prop:=
 ∃x b' s',run=some (x,b',s')/\b'.defers=b.defers/\((x=.norm/\∃a',ALe a' b'/\k a' s'=some r)\/(∃v a',x=.pan v/\ALe a' b'/\p v a' s'=some r))
theorem onEn_inv {q:Rs} {k p:V->St->Rs} (h:onEn q k p=some r):∃e s',q=some (e,s')/\((∃v,e=.ret v/\k v s'=some r)\/(∃v,e=.pan v/\p v s'=some r)):=by
 unfold onEn at h;simp only[oI]at h;obtain⟨⟨e,s'⟩,h1,h2⟩:=h;cases e with
 | ret v=>exact⟨_,_,h1,.inl ⟨v,rfl,h2⟩⟩
 | pan v=>exact⟨_,_,h1,.inr ⟨v,rfl,h2⟩⟩
theorem met_pure (h:ALe a b) {op:Op} {d:Option Tmp} {v:V} {k:Ac->St->Rs} {p:V->Ac->St->Rs} (hv:opV E a op=some v) (hp:(putK d a v fun a=>k a s)=some r) :
 Both E self a b r (((opF E op).run b s).bind (qbe (qjc d) self b)) k p:=by
 obtain⟨a',b',h1,h2,h3,h4⟩:=qhd h hp;refine⟨.norm,b',s,?_,h3,.inl ⟨rfl,a',h2,h4⟩⟩;rw[opV_run (opV_le h hv)];show qm2 v (fun v=>qgj s fun s=>((qjc d).run b v).bind fun a=>some (X.norm,a,s))=_;rw[qbv,qaw,h1]; rfl
theorem met_state (h:ALe a b) {op:Op} {d:Option Tmp} {q:V×St} {k:Ac->St->Rs} {p:V->Ac->St->Rs} (hv:opS E a s op=some q) (hp:(putK d a q.1 fun a=>k a q.2)=some r) :
 Both E self a b r (((opF E op).run b s).bind (qbe (qjc d) self b)) k p:=by
 obtain⟨a',b',h1,h2,h3,h4⟩:=qhd h hp;refine⟨.norm,b',q.2,?_,h3,.inl ⟨rfl,a',h2,h4⟩⟩;rw[opS_run (v:=q.1) (s':=q.2) (opS_le h hv)];show qm2 q.1 (fun v=>qgj q.2 fun s=>((qjc d).run b v).bind fun a=>some (X.norm,a,s))=_;rw[qbv,qaw,h1]; rfl
theorem met_call (h:ALe a b) {op:Op} {d:Option Tmp} {k:Ac->St->Rs} {p:V->Ac->St->Rs} (hp:onEn (opC E self a s op) (fun v s=>putK d a v fun a=>k a s) (fun v s=>p v a s)=some r) :
 Both E self a b r (((opF E op).run b s).bind (qbe (qjc d) self b)) k p:=by
 obtain⟨e,s',h1,h2⟩:=onEn_inv hp
 have after:∀(g:En×St->Option (X×Ac×St)),g=qbm (qjc d) b->Both E self a b r (g (e,s')) k p:=by
  intro g hg;subst hg;rcases h2 with⟨v,rfl,h2⟩|⟨v,rfl,h2⟩
  . obtain⟨a',b',h3,h4,h5,h6⟩:=qhd h h2
    refine⟨.norm,b',s',?_,h5,.inl ⟨rfl,a',h4,h6⟩⟩;show qm2 v (fun v=>qgj s' fun s=>((qjc d).run b v).bind fun a=>some (X.norm,a,s))=_;rw[qbv,qaw,h3]; rfl
  . exact⟨.pan v,b,s',rfl,rfl,.inr ⟨v,a,rfl,h,h2⟩⟩
 rcases opC_run (opC_le h h1)with⟨f,args,s1,h3,h4⟩|⟨l,args,s1,h3,h4⟩|⟨v,h3,h4⟩|⟨v,h3,h4⟩
 . rw[h3]
   show Both E self a b r (qgj s1 fun s=>(self.f f args s).bind (qbm (qjc d) b)) k p;rw[qaw,h4];exact after _ rfl
 . rw[h3]
   show Both E self a b r (qgj s1 fun s=>(self.r l args s).bind (qbm (qjc d) b)) k p;rw[qaw,h4];exact after _ rfl
 . rw[h3]
   subst h4;exact after _ rfl
 . rw[h3]
   subst h4;rcases h2 with⟨v',h5,h2⟩|⟨v',h5,h2⟩
   . cases h5
   . cases h5
     exact⟨.pan v,b,s',rfl,rfl,.inr ⟨v,a,rfl,h,h2⟩⟩
theorem unmet (h:ALe a b) {d:Option Tmp} {k:Ac->St->Rs} {p:V->Ac->St->Rs} (hp:(putK d a (.tuple []) fun a=>k a s)=some r) :
 Both E self a b r (((qjc d).run b (.tuple [])).bind fun a=>some (X.norm,a,s)) k p:=by
 obtain⟨a',b',h1,h2,h3,h4⟩:=qhd h hp;exact⟨.norm,b',s,by rw[h1]; rfl,h3,.inl ⟨rfl,a',h2,h4⟩⟩
theorem qjn (h:ALe a b) {ops:Array Oper} {o:Oper} {k:Ac->St->Rs} {p:V->Ac->St->Rs} (e:oneK E self ops o a s k p=some r):Both E self a b r ((op1 E ops o).run self b s) k p:=by
 show Both E self a b r (((qe8 ops o).run b).bind fun w=>bif w then((opF E o.op).run b s).bind (qbe (qjc o.dst) self b)else((qjc o.dst).run b (.tuple [])).bind fun a=>some (.norm,a,s)) k p;unfold oneK at e;cases hg:o.guard with
 | none=>
  rw[hg]at e;simp only at e;have hw:(qe8 ops o).run b=some true:=by unfold qe8; rw[hg]
  rw[hw];simp only[oB,cT];cases hp:isPure o.op with
  | true=>
   rw[hp]at e;simp only[cT,oI]at e;obtain⟨v,hv,e⟩:=e;exact met_pure h hv e
  | false=>
  cases hc:isCall o.op with
  | true=>rw[hp,hc]at e; simp only[cT,cF]at e; exact met_call h e
  | false=>
   rw[hp,hc]at e;simp only[cF,oI]at e;obtain⟨q,hq,e⟩:=e;exact met_state h hq e
 | some gw=>
  obtain⟨j,want⟩:=gw;rw[hg]at e;simp only[oI]at e;obtain⟨w,⟨t,ht,hw⟩,e⟩:=e;cases hlt:Nat.blt t a.n with
  | false=>rw[hlt]at hw; cases hw
  | true=>
  rw[hlt]at hw;simp only[cT,oI]at hw;obtain⟨u,hu,hw⟩:=hw
  have hwb:(qe8 ops o).run b=some w:=by
   unfold qe8;rw[hg];simp only;have ht':(ops[j]?).bind (·.dst)=some t:=by simp only[oI]; exact ht
   rw[ht'];show qkf t (getP (bits t t)) want b=_;unfold qkf;rw[<- h.n,hlt,qi2,h.tmps t _ hu];simp only[cT,oB];unfold qa2 at hw;cases u<;>simp only at hw ⊢<;>exact hw
  rw[hwb];simp only[oB];cases hm:w with
  | true=>
   rw[hm]at e;simp only[cT]at e ⊢;cases hp:isPure o.op with
   | true=>
    rw[hp]at e;simp only[cT,oI]at e;obtain⟨v,hv,e⟩:=e;exact met_pure h hv e
   | false=>
   cases hc:isCall o.op with
   | true=>rw[hp,hc]at e; simp only[cT,cF]at e; exact met_call h e
   | false=>
    rw[hp,hc]at e;simp only[cF,oI]at e;obtain⟨q,hq,e⟩:=e;exact met_state h hq e
  | false=>
   rw[hm]at e;simp only[cF]at e ⊢;cases hp:isPure o.op with
   | true=>rw[hp]at e; exact unmet h e
   | false=>
   cases hc:isCall o.op with
   | true=>rw[hp,hc]at e; exact unmet h e
   | false=>rw[hp,hc]at e; exact unmet h e
def BothC (E:Env) (self:EV) (a b:Ac) (r:En×St) (run:Option (X×Ac×St)) (k:Ac->St->Rs) (p:V->Ac->St->Rs):Prop:=
 ∃x b' s',run=some (x,b',s')/\((x=.norm/\∃a',ALe a' b'/\k a' s'=some r)\/(∃v a',x=.pan v/\ALe a' b'/\p v a' s'=some r))
theorem oneD_sound (h:ALe a b) {ops:Array Oper} {o:Oper} {k:Ac->St->Rs} {p:V->Ac->St->Rs} (e:oneD E self ops o a s k p=some r):BothC E self a b r ((op1 E ops o).run self b s) k p:=by
 unfold oneD at e;split at e
 . rename_i c hop hg
   simp only[oI]at e;obtain⟨d,hd,e⟩:=e;unfold deferK at hd;split at hd
   . rename_i f hf hr
     simp only[oI]at hd;obtain⟨fv,hfv,hd⟩:=hd;cases fv<;>simp only[reduceCtorEq]at hd;simp only[oI,oS]at hd;obtain⟨vs,hvs,rfl⟩:=hd;have h2:∀d:AD,ALe {a with defers:=d::a.defers} {b with defers:=d::b.defers}:=fun d=>⟨h.n,by rw[h.defers],h.round,h.tmps⟩
     obtain⟨a',b',k1,k2,_,k4⟩:=qhd (h2 _) e;refine⟨.norm,b',s,?_,.inl ⟨rfl,a',k2,k4⟩⟩;show(((qe8 ops o).run b).bind fun w=>bif w then((opF E o.op).run b s).bind (qbe (qjc o.dst) self b)else((qjc o.dst).run b (.tuple [])).bind fun a=>some (.norm,a,s))=_;have hw:(qe8 ops o).run b=some true:=by unfold qe8; rw[hg]
     rw[hw,hop];simp only[oB,cT];have hrun:(opF E (.defer c)).run b s=qho E f c.args.toList b s:=by simp only[opF,hf]
     rw[hrun];unfold qho;rw[qaf h hfv];simp only[oB];rw[qf2 h hvs];simp only[oB];show(match b.round with|none=>_|some _=>none)=_;have hr':b.round=none:=by rw[<- h.round]; exact hr
     rw[hr']at k1 ⊢;simp only;rw[k1]; rfl
   . cases hd
 . obtain⟨x,b',s',h1,_,h2⟩:=qjn h e
   exact⟨x,b',s',h1,h2⟩
theorem opsK_sound {ops:Array Oper} {k:Ac->St->Rs} {p:V->Ac->St->Rs}:∀(l:List Oper) {a b:Ac} {s:St},ALe a b->opsK E self ops l k p a s=some r->BothC E self a b r ((opsL E ops l).run self b s) k p
 | [],a,b,s,h,e=>⟨.norm,b,s,rfl,.inl ⟨rfl,a,h,e⟩⟩
 | o::l,a,b,s,h,e=>by
  obtain⟨x,b',s',h1,h2⟩:=oneD_sound (k:=fun a s=>opsK E self ops l k p a s) h e;show BothC E self a b r (((op1 E ops o).run self b s).bind (seqOn (opsL E ops l) self)) k p;rw[h1];rcases h2 with⟨rfl,a',h3,h4⟩|⟨v,a',rfl,h3,h4⟩
  . exact opsK_sound l h3 h4
  . exact⟨.pan v,b',s',rfl,.inr ⟨v,a',rfl,h3,h4⟩⟩
theorem qlv {ops:Array Oper} {k:List (List LE)->Ac->St->Rs} {p:List (List LE)->V->Ac->St->Rs}:∀(l:List Oper) (ls:List (List LE)) {a b:Ac} {s:St},ALe a b->drawK E self ops l k p ls a s=some r->
 ∃x b' s' logs,(opsD E ops l).run self b s=some (x,b',s',logs)/\b'.defers=b.defers/\((x=.norm/\∃a',ALe a' b'/\k (logs.reverse++ls) a' s'=some r)\/(∃v a',x=.pan v/\ALe a' b'/\p (logs.reverse++ls) v a' s'=some r))
 | [],ls,a,b,s,h,e=>⟨.norm,b,s,[],rfl,rfl,.inl ⟨rfl,a,h,e⟩⟩
 | o::l,ls,a,b,s,h,e=>by
  obtain⟨x,b',s',h1,hd,h2⟩:=qjn (s:={s with on:=true,log:=[]}) (k:=fun a s=>drawK E self ops l k p (s.log::ls) a s) (p:=fun v a s=>p (s.log::ls) v a s) h e;show ∃x b' s' logs,(((op1 E ops o).run self b {s with on:=true,log:=[]}).bind (qf1 (opsD E ops l) self))=some (x,b',s',logs)/\_;rw[h1];rcases h2 with⟨rfl,a',h3,h4⟩|⟨v,a',rfl,h3,h4⟩
  . obtain⟨y,b2,s2,logs,k1,k2,k3⟩:=qlv l (s'.log::ls) h3 h4
    refine⟨y,b2,s2,s'.log::logs,?_,k2.trans hd,?_⟩
    . show((opsD E ops l).run self b' s').bind _=_
      rw[k1]; rfl
    . rw[List.reverse_cons,List.append_assoc]
      exact k3
  . exact⟨.pan v,b',s',[s'.log],rfl,hd,.inr ⟨v,a',rfl,h3,h4⟩⟩
theorem dropT_keep {i bef t:Nat}:∀(l:List Pl) {x:Tr V},(∀q∈l,q.dst≠some t)->(dropT i bef l x).get t=x.get t
 | [],x,_=>rfl
 | q::l,x,h=>by
  simp only[dropT];rw[dropT_keep l fun q hq=>h q (mO _ hq)];cases(Nat.beq q.i i||Nat.testBit bef q.i||Nat.testBit q.bef i)with
  | true=>rfl
  | false=>
   cases hd:q.dst with
   | none=>rfl
   | some d=>
    simp only[cF];rw[Tr.get_del_eq,iN];intro e;exact h q (List.mem_cons_self ..) (by rw[hd,e])
theorem memN_true {k:Nat}:∀{l:List Nat},memN k l=true↔k∈l
 | []=>by simp[memN]
 | x::l=>by
  simp only[memN];rcases qad x k with⟨h,e⟩|⟨h,e⟩
  . rw[h]; simp[e]
  . rw[h]; simp only[cF,List.mem_cons]; rw[memN_true]; exact⟨.inr,fun h=>h.resolve_left fun h=>e h.symm⟩
theorem stays_spec {L:List Nat} {t:Nat} (ht:t∈L):∀{l:List Pl},stays L l=true->∀q∈l,q.dst≠some t
 | [],_,q,hq=>by cases hq
 | x::l,h,q,hq=>by
  simp only[stays,bA]at h;rcases List.mem_cons.1 hq with rfl|hq
  . intro e
    rw[e]at h;have:=memN_true.2 ht;simp[this]at h
  . exact stays_spec ht h.2 q hq
theorem qmt:∀(L:List Nat) {t acc:Tr V} {k:Tr V->Rs},(∀i v,acc.get i=some v->t.get i=some v)->projT L t acc k=some r->∃u,(∀i v,u.get i=some v->t.get i=some v)/\k u=some r
 | [],t,acc,k,h,e=>⟨acc,h,e⟩
 | i::L,t,acc,k,h,e=>by
  simp only[projT,oI]at e;obtain⟨v,hv,e⟩:=e;refine qmt L (fun j u hj=>?_) e;rw[Tr.get_set]at hj;by_cases hi:j=i
  . rw[iP hi]at hj; simp only[oS]at hj; subst hj; rw[hi]; exact hv
  . rw[iN hi]at hj; exact h j u hj
theorem qe7 {L:List Nat} {k:Ac->Rs} (h:ALe a b) (e:qb8 L a k=some r):∃a',ALe a' b/\k a'=some r:=by
 obtain⟨u,h1,h2⟩:=qmt L (fun i v hv=>by rw[Tr.get_nil]at hv; cases hv) e;exact⟨{a with tmps:=u},⟨h.n,h.defers,h.round,fun t v ht=>h.tmps t v (h1 t v ht)⟩,h2⟩
theorem projT_only:∀(L:List Nat) {t acc:Tr V} {k:Tr V->Rs},projT L t acc k=some r->∃u,(∀i v,u.get i=some v->(i∈L/\t.get i=some v)\/acc.get i=some v)/\k u=some r
 | [],t,acc,k,e=>⟨acc,fun i v h=>.inr h,e⟩
 | i::L,t,acc,k,e=>by
  simp only[projT,oI]at e;obtain⟨v,hv,e⟩:=e;obtain⟨u,h1,h2⟩:=projT_only L e;refine⟨u,fun j w hj=>?_,h2⟩;rcases h1 j w hj with⟨h3,h4⟩|h3
  . exact .inl ⟨mO _ h3,h4⟩
  . rw[Tr.get_set]at h3
    by_cases hi:j=i
    . rw[iP hi]at h3; simp only[oS]at h3; subst h3; subst hi; exact .inl ⟨List.mem_cons_self ..,hv⟩
    . rw[iN hi]at h3; exact .inr h3
theorem panK_sound (h:ALe a b) {L:List Nat} {pl:Plan} {s0:St} {logs:List (List LE)} {v:V} {k:V->Ac->St->Rs} (e:panK L pl s0 logs.reverse v a s k=some r) :
 qag logs pl.prs=true/\∃b2,pinned (logs.length-1) logs pl.pls b=some b2/\∃a2,ALe a2 b2/\k v a2 (qbh s0 s logs)=some r:=by
 unfold panK at e;rw[List.reverse_reverse,List.length_reverse]at e;cases hc:(qag logs pl.prs&&pinOk (logs.length-1) logs pl.pls&&stays L pl.pls)with
 | false=>rw[hc]at e; cases e
 | true=>
  rw[hc]at e;simp only[bA]at hc;obtain⟨⟨h1,h2⟩,h3⟩:=hc;refine⟨h1,?_⟩;unfold pinOk at h2;unfold pinned;split at h2
  . rename_i p hp
    rw[hp];simp only[h2,cT];refine⟨_,rfl,?_⟩;obtain⟨u,h4,h5⟩:=projT_only L e;refine⟨{a with tmps:=u},⟨h.n,h.defers,h.round,fun t w ht=>?_⟩,h5⟩;rcases h4 t w ht with⟨h6,h7⟩|h6
    . show(dropT _ _ pl.pls b.tmps).get t=some w
      rw[dropT_keep pl.pls (stays_spec h6 h3)];exact h.tmps t w h7
    . rw[Tr.get_nil]at h6; cases h6
  . cases h2
def KOk (K:Kt) (x:X) (b:Ac) (s:St) (r:En×St):Prop:=
 ∃a,ALe a b/\match x with
  | .norm=>K.norm a s=some r
  | .ret=>K.ret a s=some r
  | .exit i=>K.exit i a s=some r
  | .pan v=>K.pan v a s=some r
theorem KOk.of_both {b0:Ac} {run:Option (X×Ac×St)} {K:Kt} (h:BothC E self a b0 r run K.norm K.pan):∃x b' s',run=some (x,b',s')/\KOk K x b' s' r:=by
 obtain⟨x,b',s',h1,h2⟩:=h;rcases h2 with⟨rfl,a',h3,h4⟩|⟨v,a',rfl,h3,h4⟩
 . exact⟨_,_,_,h1,a',h3,h4⟩
 . exact⟨_,_,_,h1,a',h3,h4⟩
theorem keepT_all (h:ALe a b):∀(L:List Nat) (acc:Tr V),allT L a.tmps=true->keepT L a.tmps acc=keepT L b.tmps acc
 | [],_,_=>rfl
 | i::L,acc,hal=>by
  rw[allT]at hal;split at hal
  . rename_i v hv
    rw[keepT,keepT,hv,h.tmps i v hv];exact keepT_all h L _ hal
  . cases hal
theorem dr_sound {RL:List Nat}:∀(d:D) (c:Code),isOf d c->∀(K:Kt) (a b:Ac) (s:St),ALe a b->dr E self RL qa3 d K a s=some r->∃x b' s',(qd7 E c).run self b s=some (x,b',s')/\KOk K x b' s' r:=by
 intro d
 induction d with
 | skip=>intro c hc K a b s h e; subst hc; exact⟨.norm,b,s,rfl,a,h,e⟩
 | region ops=>intro c hc K a b s h e; obtain⟨i,rfl⟩:=hc; exact KOk.of_both (opsK_sound ops.toList h e)
 | drawn ops=>
  intro c hc K a b s h e;obtain⟨i,rfl⟩:=hc;have e':(bif (qas E ops).ok then drawK E self ops ops.toList (fun ls a s'=>endK (qas E ops) s ls s' fun s=>K.norm a s) (fun ls v a s'=>panK RL (qas E ops) s ls v a s' K.pan) [] a s else none)=some r:=e;cases hok:(qas E ops).ok with
  | false=>rw[hok]at e'; cases e'
  | true=>
  rw[hok]at e';simp only[cT]at e';obtain⟨x,b',s',logs,h1,hd,h2⟩:=qlv ops.toList [] h e';have hrun:(qd7 E (.region i ops true)).run self b s=(bif (qas E ops).ok then((opsD E ops ops.toList).run self b s).bind (qc3 (qas E ops) b s)else none):=rfl;rw[hrun,hok,h1];simp only[cT,oB];have hlen:Nat.beq b'.defers.length b.defers.length=true:=by rw[hd]; exact Nat.beq_refl _
  rw[List.append_nil]at h2;rcases h2 with⟨rfl,a',h3,h4⟩|⟨v,a',rfl,h3,h4⟩
  . unfold endK at h4
    rw[List.reverse_reverse]at h4;cases hp:qag logs (qas E ops).prs with
    | false=>rw[hp]at h4; cases h4
    | true=>
     rw[hp]at h4;refine⟨.norm,b',_,?_,a',h3,h4⟩;show(bif qag logs (qas E ops).prs&&Nat.beq b'.defers.length b.defers.length then some (X.norm,b',qbh s s' logs)else none)=_;rw[hp,hlen]; rfl
  . obtain⟨hp,b2,h7,a2,h8,h9⟩:=panK_sound h3 h4
    refine⟨.pan v,b2,qbh s s' logs,?_,a2,h8,h9⟩;show(bif qag logs (qas E ops).prs&&Nat.beq b'.defers.length b.defers.length then(pinned (logs.length-1) logs (qas E ops).pls b').bind fun a'=>some (X.pan v,a',qbh s s' logs)else none)=_;rw[hp,hlen];simp only[Bool.and_self,cT];rw[h7]; rfl
 | seq x y ihx ihy=>
  intro c hc K a b s h e;obtain⟨cx,cy,rfl,hx,hy⟩:=hc;obtain⟨q,b',s',h1,a',h2,h3⟩:=ihx cx hx _ a b s h e;have hrun:(qd7 E (.seq cx cy)).run self b s=((qd7 E cx).run self b s).bind (seqOn (qd7 E cy) self):=rfl;rw[hrun,h1];cases q with
  | norm=>exact ihy cy hy K a' b' s' h2 h3
  | ret=>exact⟨_,_,_,rfl,a',h2,h3⟩
  | exit i=>exact⟨_,_,_,rfl,a',h2,h3⟩
  | pan v=>exact⟨_,_,_,rfl,a',h2,h3⟩
 | join x L y ihx ihy=>
  intro c hc K a b s h e;obtain⟨cx,cy,rfl,hx,hy⟩:=hc;obtain⟨q,b',s',h1,a',h2,h3⟩:=ihx cx hx _ a b s h e;have hrun:(qd7 E (.seq cx cy)).run self b s=((qd7 E cx).run self b s).bind (seqOn (qd7 E cy) self):=rfl;rw[hrun,h1];cases q with
  | norm=>
   have h3':(qb8 L a' fun a=>dr E self RL qa3 y K a s')=some r:=h3;obtain⟨a2,h4,h5⟩:=qe7 h2 h3';exact ihy cy hy K a2 b' s' h4 h5
  | ret=>exact⟨_,_,_,rfl,a',h2,h3⟩
  | exit i=>exact⟨_,_,_,rfl,a',h2,h3⟩
  | pan v=>exact⟨_,_,_,rfl,a',h2,h3⟩
 | cond o x y ihx ihy=>
  intro c hc K a b s h e;obtain⟨cx,cy,rfl,hx,hy⟩:=hc;have e':((evO E a o).bind fun v=>ifK v (dr E self RL qa3 x K a s) (dr E self RL qa3 y K a s))=some r:=e;simp only[oI]at e';obtain⟨v,hv,e'⟩:=e';have hrun:(qd7 E (.cond o cx cy)).run self b s=(evO E b o).bind fun|.bool w=>bif w then(qd7 E cx).run self b s else(qd7 E cy).run self b s|_=>none:=rfl;rw[hrun,qaf h hv];unfold ifK at e';cases v<;>simp only[reduceCtorEq]at e';rename_i w;cases w with
  | true=>exact ihx cx hx K a b s h e'
  | false=>exact ihy cy hy K a b s h e'
 | block id x ihx=>
  intro c hc K a b s h e;obtain⟨cx,rfl,hx⟩:=hc;obtain⟨q,b',s',h1,a',h2,h3⟩:=ihx cx hx _ a b s h e;have hrun:(qd7 E (.block id cx)).run self b s=((qd7 E cx).run self b s).bind (qlj id):=rfl;rw[hrun,h1];cases q with
  | norm=>exact⟨_,_,_,rfl,a',h2,h3⟩
  | ret=>exact⟨_,_,_,rfl,a',h2,h3⟩
  | exit i=>
   have h3':(bif Nat.beq i id then K.norm a' s' else K.exit i a' s')=some r:=h3;refine⟨bif Nat.beq i id then .norm else .exit i,b',s',rfl,a',h2,?_⟩;cases hi:Nat.beq i id with
   | true=>rw[hi]at h3'; exact h3'
   | false=>rw[hi]at h3'; exact h3'
  | pan v=>exact⟨_,_,_,rfl,a',h2,h3⟩
 | loop L x ihx=>
  intro c hc K a b s h e;obtain⟨cx,rfl,hx⟩:=hc;rw[show qd7 E (.loop cx)=⟨qjk (qd7 E cx) qa3⟩from rfl];have e':loopD L qa3 (dr E self RL qa3 x) K a s=some r:=e;unfold loopD at e';obtain⟨a1,h1,h2⟩:=qe7 h e';clear e e' h
  have key:∀(n:Nat) (a1 b:Ac) (s:St),ALe a1 b->qdq L (dr E self RL qa3 x) K n a1 s=some r->∃x b' s',qjk (qd7 E cx) n self b s=some (x,b',s')/\KOk K x b' s' r:=by
   intro n
   induction n with
   | zero=>intro a1 b s h1 h2; cases h2
   | succ n ih=>
    intro a1 b s h1 h2;obtain⟨q,b',s',h3,a',h4,h5⟩:=ihx cx hx {K with norm:=fun a s=>qb8 L a fun a=>qdq L (dr E self RL qa3 x) K n a s} a1 b s h1 h2;have hl:qjk (qd7 E cx) (n+1) self b s=((qd7 E cx).run self b s).bind (loopOn (qjk (qd7 E cx) n) self):=rfl;rw[hl,h3];cases q with
    | norm=>
     have h5':(qb8 L a' fun a=>qdq L (dr E self RL qa3 x) K n a s')=some r:=h5;obtain⟨a2,h6,h7⟩:=qe7 h4 h5';exact ih a2 b' s' h6 h7
    | ret=>exact⟨_,_,_,rfl,a',h4,h5⟩
    | exit i=>exact⟨_,_,_,rfl,a',h4,h5⟩
    | pan v=>exact⟨_,_,_,rfl,a',h4,h5⟩
  exact key qa3 a1 b s h1 h2
 | exit id L=>
  intro c hc K a b s h e;subst hc;have e':(qb8 L a fun a=>K.exit id a s)=some r:=e;obtain⟨a1,h1,h2⟩:=qe7 h e';exact⟨.exit id,b,s,rfl,a1,h1,h2⟩
 | ret=>intro c hc K a b s h e; subst hc; exact⟨.ret,b,s,rfl,a,h,e⟩
 | scope x ihx=>
  intro c hc K a b s h e;obtain⟨cx,rfl,hx⟩:=hc;exact ihx cx hx K a b s h e
 | label=>intro c hc K a b s h e; obtain⟨l,rfl⟩:=hc; exact⟨.norm,b,s,rfl,a,h,e⟩
 | range f ps x y=>
  intro c hc K a b s h e;obtain⟨psA,rfl,rfl⟩:=hc;have e':rangeD E self f psA.toList x y K a s=some r:=e;unfold rangeD at e';have hrun:(qd7 E (.rangeFunc f psA x y)).run self b s=qfc E f psA.toList x y self b s:=rfl;rw[hrun];unfold qfc;rw[<- h.round];cases hr:a.round with
  | some l0=>rw[hr]at e'; cases e'
  | none=>
   rw[hr]at e';simp only at e' ⊢;cases hal:allT (roundL psA.toList x y) a.tmps with
   | false=>rw[hal]at e'; cases e'
   | true=>
   rw[hal]at e';simp only[cT,oI]at e';obtain⟨fv,hfv,nx,hnx,e'⟩:=e';rw[qaf h hfv];simp only[oB];rw[show qer psA.toList x y b.tmps=qer psA.toList x y a.tmps from(keepT_all h _ _ hal).symm,<- h.n,hnx];simp only[oB];have h2:ALe {tmps:=a.tmps,n:=a.n,defers:=mkR s.next::a.defers,round:=none} {tmps:=b.tmps,n:=a.n,defers:={mark:=some s.next,f:=.func 0,captured:=[],args:=[]}::b.defers,round:=none}:=⟨rfl,by rw[h.defers]; rfl,rfl,h.tmps⟩
   cases nx<;>simp only[rangeE,reduceCtorEq]at e';rename_i g args s1;obtain⟨en,s2,h3,h4⟩:=onEn_inv e';simp only[rangeCall];rw[h3];simp only[oB];rcases h4 with⟨v,rfl,h4⟩|⟨v,rfl,h4⟩
   . simp only[qh2]
     unfold endLK at h4;simp only[oI]at h4;obtain⟨p,hp,h4⟩:=h4;unfold endLoop;rw[hp];simp only[oB];split at h4
     . rename_i st pend tmps n params assign body ho
       rw[ho];simp only;cases hst:Nat.beq st 2 with
       | true=>rw[hst]at h4; cases h4
       | false=>
        rw[hst]at h4;simp only[cF]at h4 ⊢;split at h4
        . exact⟨_,_,_,rfl,_,h2,h4⟩
        . exact⟨_,_,_,rfl,_,h2,h4⟩
        . exact⟨_,_,_,rfl,_,h2,h4⟩
        . cases h4
     . cases h4
   . exact⟨_,_,_,rfl,_,h2,h4⟩
 | bad=>intro c hc K a b s h e; cases e
 | out x L ihx=>
  intro c hc K a b s h e;obtain⟨q,b',s',h1,a',h2,h3⟩:=ihx c hc _ a b s h e;rw[h1];cases q with
  | norm=>
   have h3':(qb8 L a' fun a=>K.norm a s')=some r:=h3;obtain⟨a2,h4,h5⟩:=qe7 h2 h3';exact⟨_,_,_,rfl,a2,h4,h5⟩
  | ret=>exact⟨_,_,_,rfl,a',h2,h3⟩
  | exit i=>exact⟨_,_,_,rfl,a',h2,h3⟩
  | pan v=>exact⟨_,_,_,rfl,a',h2,h3⟩
theorem qfu (h:ALe a b):∀{l:List ResultVar} {s:St} {q:List V×St},qay E a l s=some q->qay E b l s=some q
 | [],s,q,e=>e
 | .tmp t::l,s,q,e=>by
  simp only[qay]at e ⊢;exact qa6 e (fun _=>qaf h) fun v e=>qa6 e (fun _=>qfu h) fun _ e=>e
 | .cell t ty::l,s,q,e=>by
  simp only[qay]at e ⊢;refine qa6 e (fun _=>qaf h) fun v e=>?_;split at e
  . rename_i v bb off
    exact qa6 e (fun _ e=>e) fun v e=>qa6 e (fun _=>qfu h) fun _ e=>e
  . cases e
theorem qgl (h:ALe a b) {fn:Func}:∀{ds:List AD} {m:Md} {s:St},qbk E self fn a ds m s=some r->qbk E self fn b ds m s=some r
 | [],m,s,e=>by
  cases m with
  | ret=>
   simp only[qbk]at e ⊢;exact qa6 e (fun _=>qfu h) fun _ e=>e
  | pan v=>exact e
  | got v=>exact e
 | d::ds,m,s,e=>by
  simp only[qbk]at e ⊢;split at e
  . rename_i x hx
    refine qa6 e (fun _ e=>e) fun p e=>?_;split at e
    . rename_i hp; exact qgl h e
    . cases e
  . rename_i hx
    split at e
    . rename_i f hf
      refine qa6 e (fun _ e=>e) fun g e=>qa6 e (fun _ e=>e) fun c e=>?_;cases hc:Nat.ble (d.args++d.captured).length g.ntmps with
      | false=>rw[hc]at e; cases e
      | true=>
       rw[hc]at e;simp only[cT]at e ⊢;refine qa6 e (fun _ e=>e) fun q e=>?_;cases hq:(quiet q.1&&Nat.beq q.2.1.defers.length 0)with
       | false=>rw[hq]at e; cases e
       | true=>
        rw[hq]at e;simp only[cT]at e ⊢;exact qa6 e (fun _ e=>e) fun p e=>qgl h e
    . cases e
theorem qhe:∀{l:List ResultVar} {k:List V->St->Rs} {s:St},resK E a l k s=some r->∃vs s',qay E a l s=some (vs,s')/\k vs s'=some r
 | [],k,s,e=>⟨[],s,rfl,e⟩
 | .tmp t::l,k,s,e=>by
  simp only[resK,oI]at e;obtain⟨v,hv,e⟩:=e;obtain⟨vs,s',h1,h2⟩:=qhe e;refine⟨v::vs,s',?_,h2⟩;simp only[qay];rw[hv]; simp only[oB]; rw[h1]; rfl
 | .cell t ty::l,k,s,e=>by
  simp only[resK,oI]at e;obtain⟨v,hv,p,hp,e⟩:=e;obtain⟨vs,s',h1,h2⟩:=qhe e;refine⟨p.1::vs,s',?_,h2⟩;simp only[qay];rw[hv]; simp only[oB];unfold ldRes at hp;cases v<;>simp only[reduceCtorEq]at hp;simp only;rw[hp]; simp only[oB]; rw[h1]; rfl
theorem finR_sound {fn:Func} (e:finR E self fn a s=some r):qbk E self fn a a.defers .ret s=some r:=by
 unfold finR at e;split at e
 . rename_i hd
   obtain⟨vs,s',h1,h2⟩:=qhe e;rw[hd];simp only[qbk];rw[h1]; exact h2
 . rename_i d ds hd
   rw[hd]; exact e
theorem runF_sound {K:FuncId->Option KF} {f:FuncId} {fn:Func} {c:Code} {d:D} {args:List V} (hf:E.fns.get f=some fn) (hb:fn.body=some c) (hd:isOf d c) (hk:K f=none) (e:qdg E self qa3 fn d args s=some r):qn7 E K self f args s=some r:=by
 unfold qdg at e;unfold qn7;rw[hk];simp only;unfold fnOf;rw[hf];simp only[oB,hb];cases hl:Nat.ble args.length fn.ntmps with
 | false=>rw[hl]at e; cases e
 | true=>
  rw[hl]at e;simp only[cT]at e ⊢;obtain⟨x,b',s',h1,a',h2,h3⟩:=dr_sound d c hd _ _ _ s (ALe.refl _) e;rw[h1];simp only[oB];unfold stepEnd;cases x with
  | norm=>simp only; rw[<- h2.defers]; exact qgl h2 (finR_sound h3)
  | ret=>simp only; rw[<- h2.defers]; exact qgl h2 (finR_sound h3)
  | exit i=>cases h3
  | pan v=>simp only; rw[<- h2.defers]; exact qgl h2 h3
end
open Go.RowKit Classical
section
variable {ρ ρ':Rho} {N:Nat}
variable {E:Env} {w0:Base} {s s':St} {w w':World}
def St.off (s:St):St:={s with on:=false,log:=[]}
end
end Go.Proofs.YtafbipadnnmccaaDoor.Ev
namespace Go.Proofs.YtafbipadnnmccaaDoor.Ev
section
variable {E:Env} {s:St}
theorem qcc (k:IntKind):ikEq k k=true:=ikEq_true.2 rfl
@[simp] theorem binV_ii (op:BinOp) (t:TypeId) (c d:Bool) (k k':IntKind) (a b:Int):qa5 E op t c d (.int k a) (.int k' b)=qeq op k a k' b:=rfl
@[simp] theorem intsV_add (k:IntKind) (a b:Int):qeq .add k a k b=some (.int k (k.wrap (a+b))):=by simp[qeq,qcc,qkj,qbt]
@[simp] theorem intsV_sub (k:IntKind) (a b:Int):qeq .sub k a k b=some (.int k (k.wrap (a-b))):=by simp[qeq,qcc,qkj,qbt]
@[simp] theorem intsV_mul (k:IntKind) (a b:Int):qeq .mul k a k b=some (.int k (k.wrap (a*b))):=by simp[qeq,qcc,qkj,qbt]
@[simp] theorem intsV_eql (k:IntKind) (a b:Int):qeq .eql k a k b=some (.bool (decide (a=b))):=by simp only[qeq,qcc,cT,qkj,qk4]; rfl
@[simp] theorem intsV_neq (k:IntKind) (a b:Int):qeq .neq k a k b=some (.bool (!decide (a=b))):=by simp only[qeq,qcc,cT,qkj,qk4]; rfl
@[simp] theorem intsV_lss (k:IntKind) (a b:Int):qeq .lss k a k b=some (.bool (decide (a<b))):=by simp only[qeq,qcc,cT,qkj,qg3]
@[simp] theorem intsV_gtr (k:IntKind) (a b:Int):qeq .gtr k a k b=some (.bool (decide (b<a))):=by simp only[qeq,qcc,cT,qkj,qg3]
@[simp] theorem intsV_leq (k:IntKind) (a b:Int):qeq .leq k a k b=some (.bool (decide (a<=b))):=by
 simp only[qeq,qcc,cT,qkj,qg3];by_cases h:b<a
 . simp[h,show ¬a<=b by omega]
 . simp[h,show a<=b by omega]
@[simp] theorem intsV_geq (k:IntKind) (a b:Int):qeq .geq k a k b=some (.bool (decide (b<=a))):=by
 simp only[qeq,qcc,cT,qkj,qg3];by_cases h:a<b
 . simp[h,show ¬b<=a by omega]
 . simp[h,show b<=a by omega]
theorem qdi {n:Int} (h1:-9223372036854775808<=n) (h2:n<9223372036854775808):IntKind.i64.wrap n=n:=by
 rw[<- qbt];unfold wrapF;cases n with
 | ofNat m=>
  have:m<qdu .i64:=by simp only[qdu]; simp at h2; omega
  simp only[blt_true.2 this,cT]
 | negSucc m=>
  have:m<qdu .i64:=by simp only[qdu]; omega
  simp only[blt_true.2 this,qir,Bool.and_self,cT]
@[simp] theorem natOf_cast (k:IntKind) (n:Nat):qdv (.int k (n:Int))=some n:=rfl
@[simp] theorem natOf_zero (k:IntKind):qdv (.int k 0)=some 0:=rfl
@[simp] theorem ifK_bool (b:Bool) (x y:Rs):ifK (.bool b) x y=bif b then x else y:=rfl
@[simp] theorem boolV_bool (b:Bool):boolV (.bool b)=some b:=rfl
theorem qae (b:Bool):qa2 true (.bool b)=some b:=rfl
theorem qat (b:Bool):qa2 false (.bool b)=some (!b):=rfl
theorem qax (w:Bool) (l:List V):qa2 w (.tuple l)=some false:=rfl
@[simp] theorem pickV_bool (b:Bool) (x y:Option V):qao (.bool b) x y=bif b then x else y:=rfl
@[simp] theorem unV_not (b:Bool):unV .not (.bool b)=some (.bool (!b)):=rfl
@[simp] theorem cvI_int (k k':IntKind) (n:Int):cvI k (.int k' n) s=some (.int k (k.wrap n),s):=by simp[cvI,qbt]
@[simp] theorem extractV_tuple (l:List V) (i:Nat):qac (.tuple l) i=l[i]?:=rfl
@[simp] theorem callP_ret (v:V) (k:V->St->Rs):callP (some (.ret v,s)) k=k v s:=rfl
@[simp] theorem callP_pan (v:V) (k:V->St->Rs):callP (some (.pan v,s)) k=some (.pan v,s):=rfl
@[simp] theorem callP_none (k:V->St->Rs):callP none k=none:=rfl
@[simp] theorem exB_same (id:Nat) (nk:Ac->St->Rs) (ek:Nat->Ac->St->Rs) (a:Ac):exB id nk ek id a s=nk a s:=by unfold exB; rw[Nat.beq_refl]; rfl
@[simp] theorem binV_ss (op:BinOp) (t:TypeId) (c d:Bool) (a b:List UInt8):qa5 E op t c d (sv a) (sv b)=qg9 op a.length (qb0 a) b.length (qb0 b):=rfl
theorem strOp_add (a b:List UInt8) (h:a.length+b.length<4611686018427387904):qg9 .add a.length (qb0 a) b.length (qb0 b)=some (sv (a++b)):=by
 unfold qg9;simp only[blt_true.2 h,cT];unfold sv;rw[lAq,qi8]
@[simp] theorem strOp_eql (a b:List UInt8):qg9 .eql a.length (qb0 a) b.length (qb0 b)=some (.bool (a==b)):=by simp only[qg9,qn0]
@[simp] theorem strOp_neq (a b:List UInt8):qg9 .neq a.length (qb0 a) b.length (qb0 b)=some (.bool (!(a==b))):=by simp only[qg9,qn0]
@[simp] theorem strOp_lss (a b:List UInt8):qg9 .lss a.length (qb0 a) b.length (qb0 b)=some (.bool (Op.bytesLess a b)):=by simp only[qg9,qfw]
@[simp] theorem strOp_gtr (a b:List UInt8):qg9 .gtr a.length (qb0 a) b.length (qb0 b)=some (.bool (Op.bytesLess b a)):=by simp only[qg9,qfw]
@[simp] theorem strOp_leq (a b:List UInt8):qg9 .leq a.length (qb0 a) b.length (qb0 b)=some (.bool (!Op.bytesLess b a)):=by simp only[qg9,qfw]
@[simp] theorem strOp_geq (a b:List UInt8):qg9 .geq a.length (qb0 a) b.length (qb0 b)=some (.bool (!Op.bytesLess a b)):=by simp only[qg9,qfw]
@[simp] theorem lnStr_sv (l:List UInt8):qbw (sv l) s=some (.int .i64 (l.length:Int),s):=rfl
theorem byteAt_sv (l:List UInt8) (n:Nat) (h:n<l.length):byteAt (sv l) n=some (.int .u8 (l[n].toNat:Int)):=by
 unfold byteAt sv;simp only[blt_true.2 h,cT];rw[pack_at n l l[n] (List.getElem?_eq_getElem h)];rfl
theorem qf5 (l:List UInt8) (k:IntKind) (n:Nat) (h:n<l.length):ixS (sv l) (.int k (n:Int))=some (.int .u8 (l[n].toNat:Int)):=by
 unfold ixS;rw[natOf_cast,oB,byteAt_sv l n h]
theorem qb9 {t:TypeId} (ht:und E t=some .string) (l:List UInt8) {lo hi:Option V} {a b m:Nat} (h:qc7 l.length l.length lo hi none=some (a,b,m)) (hle:b<=l.length) :
 qak E t (sv l) lo hi none s=some (sv ((l.drop a).take (b-a)),s):=by
 unfold qak;rw[ht];simp only[oB,sv];rw[h];simp only[oB,List.length_take,List.length_drop,qmp,qmo];rw[show min (b-a) (l.length-a)=b-a by omega]
theorem qe4 {len cap a b:Nat} (k k':IntKind) (h1:a<=b) (h2:b<=cap):qc7 len cap (some (.int k (a:Int))) (some (.int k' (b:Int))) none=some (a,b,cap):=by
 simp[qc7,ble_true.2 h1,ble_true.2 h2]
theorem qcw {len cap a:Nat} (k:IntKind) (h1:a<=len):qc7 len cap (some (.int k (a:Int))) none none=some (a,len,cap):=by
 simp[qc7,ble_true.2 h1]
theorem qey {len cap b:Nat} (k:IntKind) (h2:b<=cap):qc7 len cap none (some (.int k (b:Int))) none=some (0,b,cap):=by
 simp[qc7,ble_true.2 h2]
@[simp] theorem lnS_list (z:Nat) (l:List V):lnS (.list z l) s=some (.int .i64 (l.length:Int),s):=rfl
@[simp] theorem lnS_nil:lnS .nilslice s=some (.int .i64 0,s):=rfl
@[simp] theorem lnS_slice (b off n c:Nat):lnS (.slice b off n c) s=some (.int .i64 (n:Int),s):=rfl
@[simp] theorem lnS_oslice (b off n z:Nat):lnS (.oslice b off n z) s=some (.int .i64 (n:Int),s):=rfl
@[simp] theorem ld1_cptr_int (k:IntKind) (n:Int):ld1 (.cptr (.int k n)) s=some (.int k n,s):=rfl
@[simp] theorem ld1_cptr_bool (b:Bool):ld1 (.cptr (.bool b)) s=some (.bool b,s):=rfl
@[simp] theorem ld1_cptr_sv (l:List UInt8):ld1 (.cptr (sv l)) s=some (sv l,s):=rfl
@[simp] theorem ld1_ptr (b off:Nat):ld1 (.ptr b off) s=ld s b off:=rfl
@[simp] theorem faP_ptr (off:Nat) (g:Bool) (k b o:Nat):faP off g (k+1) (.ptr b o)=some (.ptr b (o+off)):=rfl
theorem qau (h:s.on=false) (b lo hi:Nat) (w:Bool):s.note b lo hi w=s:=by unfold St.note; rw[h]; rfl
theorem qft (b x:Nat) (o:O):(s.put b o).heap.get x=if x=b then some o else s.heap.get x:=by
 rw[put_eq]; exact Tr.get_set _ _ _ _
@[simp] theorem put_next (b:Nat) (o:O):(s.put b o).next=s.next:=rfl
@[simp] theorem put_on (b:Nat) (o:O):(s.put b o).on=s.on:=rfl
theorem qgo (x:Nat) (o:O):(nw s o).heap.get x=if x=s.next then some o else s.heap.get x:=by
 show(((s.note s.next 0 big true).heap).setS o s.next).get x=_;rw[qam,Tr.setS_eq,Tr.get_set]
@[simp] theorem nw_next (o:O):(nw s o).next=s.next+1:=rfl
theorem nw_on (h:s.on=false) (o:O):(nw s o).on=false:=by unfold nw; rw[qau h]; exact h
theorem ld_of {b off e esz n:Nat} {ro:Bool} {c:Tr (Tr V)} {v:V} (ho:s.on=false) (hb:s.heap.get b=some (.cells e esz n ro c)) (h1:off<esz*n) (h2:esz*n<big) (hv:qbd c esz off=some v):ld s b off=some (v,s):=by
 unfold qbd at hv;unfold ld;rw[hb];simp only[blt_true.2 h1,blt_true.2 h2,Bool.and_self,cT];rw[qau ho];rw[oI]at hv;obtain⟨t,ht,hv⟩:=hv;rw[ht]; simp only[oB]; rw[hv]; rfl
theorem St.ext' {a b:St} (h1:a.heap=b.heap) (h2:a.next=b.next) (h3:a.on=b.on) (h4:a.log=b.log):a=b:=by
 cases a; cases b; simp_all
theorem relog_onS (h:s.on=false) (ls:List (List LE)):qbh s (onS s) ls=s:=by
 unfold qbh;rw[h];simp only[cF,onS];exact St.ext' rfl rfl h.symm rfl
end
structure RowAt (s:St) (b e z:Nat) (l:List (Tr V)):Prop where
 pos:0<z
 fit:z*l.length<big
 row:∃c,s.heap.get b=some (.cells e z l.length false c)/\∀(i:Nat) t,l[i]?=some t->c.get i=some t
structure Grew (W:Nat->Prop) (s t:St):Prop where
 next:s.next<=t.next
 on:t.on=s.on
 keep:∀x,x<s.next->¬W x->t.heap.get x=s.heap.get x
theorem Grew.refl (W:Nat->Prop) (s:St):Grew W s s:=⟨lR _,rfl,fun _ _ _=>rfl⟩
theorem Grew.trans {W:Nat->Prop} {a b c:St} (h:Grew W a b) (k:Grew W b c):Grew W a c:=
 ⟨Nat.le_trans h.next k.next,k.on.trans h.on,fun x hx hw=>(k.keep x (Nat.lt_of_lt_of_le hx h.next) hw).trans (h.keep x hx hw)⟩
theorem Grew.mono {W W':Nat->Prop} {a b:St} (h:Grew W a b) (hw:∀x,x<a.next->W x->W' x):Grew W' a b:=⟨h.next,h.on,fun x hx hn=>h.keep x hx fun hh=>hn (hw x hx hh)⟩
theorem RowAt.grew {W:Nat->Prop} {s t:St} {b e z:Nat} {l:List (Tr V)} (h:RowAt s b e z l) (hb:b<s.next) (hw:¬W b) (g:Grew W s t):RowAt t b e z l:=by
 obtain⟨c,h1,h2⟩:=h.row;exact⟨h.pos,h.fit,c,by rw[g.keep b hb hw]; exact h1,h2⟩
section
variable {s:St}
theorem qeo (h:s.on=false) (W:Nat->Prop) (o:O):Grew W s (nw s o):=
 ⟨by simp,by rw[nw_on h,h],fun x hx _=>by rw[qgo,iN (by omega)]⟩
theorem qiq (b:Nat) (o:O):Grew (fun x=>x=b) s (s.put b o):=⟨lR _,rfl,fun x _ hw=>by rw[qft,iN hw]⟩
theorem RowAt.ld1 (ho:s.on=false) {b e i:Nat} {l:List (Tr V)} {v:V} (h:RowAt s b e 1 l) (hi:l[i]?=some (one v)):ld s b i=some (v,s):=by
 obtain⟨c,h1,h2⟩:=h.row;have hlt:=(List.getElem?_eq_some_iff.1 hi).1;refine ld_of ho h1 (by omega) h.fit ?_;unfold qbd;rw[Nat.div_one,Nat.mod_one,h2 i _ hi]; rfl
theorem RowAt.ldK (ho:s.on=false) {b e z i:Nat} {l:List (Tr V)} {t:Tr V} (h:RowAt s b e z l) (hi:l[i]?=some t):ldK s b (i*z) z=some (t,s):=by
 obtain⟨c,h1,h2⟩:=h.row;have hlt:=(List.getElem?_eq_some_iff.1 hi).1;unfold Ev.ldK;rw[h1]
 have hle:i*z+z<=z*l.length:=by
  calc i*z+z=(i+1)*z:=by rw[Nat.add_mul,Nat.one_mul]
   _<=l.length*z:=Nat.mul_le_mul_right _ hlt
   _=z*l.length:=Nat.mul_comm ..
 simp only[ble_true.2 hle,blt_true.2 h.fit,Bool.and_self,cT];unfold qg1;rw[Nat.beq_refl,show Nat.beq (i*z%z) 0=true from beq_true.2 (Nat.mul_mod_left ..)];simp only[Bool.and_self,cT,Nat.mul_div_cancel _ h.pos,h2 i t hi,oB,qau ho]
theorem RowAt.ldN (ho:s.on=false) {b e z:Nat} {l:List (Tr V)} (h:RowAt s b e z l):∀(n i:Nat),i+n<=l.length->ldN b z n (i*z) s=some ((l.drop i).take n,s)
 | 0,i,_=>by simp[Ev.ldN]
 | n+1,i,hle=>by
  have hlt:i<l.length:=by omega
  unfold Ev.ldN;rw[h.ldK ho (List.getElem?_eq_getElem hlt)];simp only[oB];rw[show i*z+z=(i+1)*z by rw[Nat.add_mul,Nat.one_mul],RowAt.ldN ho h n (i+1) (by omega)];simp only[oB];rw[List.drop_eq_getElem_cons hlt,List.take_succ_cons]
theorem qfv (ho:s.on=false) {e z n:Nat} {c:Tr (Tr V)} {l:List (Tr V)} (hz:0<z) (hn:l.length=n) (hf:z*n<big) (hc:∀(i:Nat) t,l[i]?=some t->c.get i=some t):RowAt (nw s (.cells e z n false c)) s.next e z l:=by
 subst hn;exact⟨hz,hf,c,by rw[qgo,iP rfl],hc⟩
theorem qev (ho:s.on=false) {e z:Nat} {l:List (Tr V)} (hz:0<z) (hf:z*l.length<big):RowAt (qan s e z l) s.next e z l:=
 qfv ho hz rfl hf fun i t h=>by rw[Tr.get_ofList]; exact h
end
theorem qi7:∀bs:List UInt8,qdw (bs.map qc6)=some (bs.length,qb0 bs)
 | []=>rfl
 | b::bs=>by
  have hb:=UInt8.toNat_lt b;rw[List.map_cons];unfold qdw;have h0:(qc6 b).get 0=some (.int .u8 (.ofNat b.toNat)):=rfl;rw[h0];simp only[oB]
  have h1:byteOf (.int .u8 (.ofNat b.toNat))=some b.toNat:=by
   show(bif Nat.blt b.toNat 256 then some b.toNat else none)=_;rw[blt_true.2 hb]; rfl
  rw[h1];simp only[oB];rw[qi7 bs];rfl
theorem pack_zeros:∀bs:List UInt8,(∀b∈bs,b=0)->qb0 bs=0
 | [],_=>rfl
 | b::bs,h=>by
  have hb:=h b (List.mem_cons_self ..);subst hb;simp only[qb0,pack_zeros bs fun b hb=>h b (mO _ hb)];rfl
section
variable {E:Env} {s:St}
theorem firstV_row (ho:s.on=false) {b e:Nat} {bs:List UInt8} (h:RowAt s b e 1 (bs.map qc6)) {off len:Nat} (hle:off+len<=bs.length):ldN b 1 len off s=some (((bs.drop off).take len).map qc6,s):=by
 have:=h.ldN ho len off (by rw[lM]; exact hle);rw[Nat.mul_one]at this;rw[this,List.map_take,List.map_drop]
theorem convert_row (ho:s.on=false) {src dst e:TypeId} (hs:und E src=some (.slice e)) (he:und E e=some (.int .u8)) (hd:und E dst=some .string) {b ty:Nat} {bs:List UInt8} (h:RowAt s b ty 1 (bs.map qc6))
 {off len cap:Nat} (hle:off+len<=bs.length):qc2 E src dst (.slice b off len cap) s=some (sv ((bs.drop off).take len),s):=by
 have hlen:((bs.drop off).take len).length=len:=by rw[List.length_take,List.length_drop]; omega
 unfold qc2;rw[hs,hd];simp only[oB,qcr,Bool.or_self,cF,he,lenV];cases hz:qb4 s b off len with
 | some q=>
  simp only[qhr];obtain⟨v,s'⟩:=q;obtain⟨e',m,ro,t,hb,h1,h2,h3,rfl,rfl⟩:=qng hz;rw[qau ho];obtain⟨c,h4,h5⟩:=h.row;rw[hb]at h4;simp only[oS,O.cells.injEq]at h4;obtain⟨_,_,_,_,rfl⟩:=h4
  have hall:∀x∈(bs.drop off).take len,x=0:=fun x hx=>by
   have hx':=List.mem_of_mem_drop (List.mem_of_mem_take hx);obtain⟨i,hi⟩:=List.getElem?_of_mem hx';have h6:=h5 i (qc6 x) (by rw[List.getElem?_map,hi]; rfl);have h7:some t=some (qc6 x):=h6;simp only[oS]at h7;rw[h7]at h3;have h8:(some (V.int .u8 (.ofNat x.toNat)))=some (V.int .u8 (.ofNat 0)):=h3;simp only[oS,V.int.injEq,true_and]at h8;have h9:x.toNat=0:=by simpa using h8
   exact UInt8.toNat.inj h9
  unfold sv;rw[hlen,pack_zeros _ hall]
 | none=>
  simp only[qhr,qb7];rw[firstV_row ho h hle];simp only[oB,qi7];rfl
theorem bsP_byte (ho:s.on=false) (e:Nat) (b:UInt8):∃t,bsP e 1 1 (one (.int .u8 0)) [(0,.int .u8 (b.toNat:Int))] s=some (.slice s.next 0 1 1,t)/\RowAt t s.next e 1 ([b].map qc6)/\Grew (fun _=>False) s t/\t.next=s.next+1:=by
 refine⟨nw s (.cells e 1 1 false ((Tr.tab 1 1 fun _=>one (.int .u8 0)).set (qc6 b) 0)),?_,?_,qeo ho _ _,rfl⟩
 . unfold bsP qgi qgi
   simp only[V.size,qaa,Nat.beq_refl,nF,Bool.and_true,show Nat.blt 0 1=true from rfl,cT,Tr.setC_eq,oB];rfl
 . refine qfv ho (by omega) rfl (by unfold big; omega) fun i t h=>?_
   rw[Tr.get_set];cases i with
   | zero=>simpa using h
   | succ i=>simp at h
def over (bs:List UInt8) (off:Nat) (l:List UInt8):List UInt8:=bs.take off++l++bs.drop (off+l.length)
end
open Classical
theorem qeb {E:Env} {K:FuncId->Option KF} {n:Nat} {f:FuncId} {g:KF} (h:K f=some g) (args:List V) (s:St):(ev E K (n+1)).f f args s=g.run args s:=by
 show qn7 E K (ev E K n) f args s=_;unfold qn7;rw[h]
theorem qa9 {E:Env} {K:FuncId->Option KF} {n:Nat} {f:FuncId} {fn:Func} {c:Code} {d:D} {args:List V} {s:St} {r:En×St} (hf:E.fns.get f=some fn) (hb:fn.body=some c) (hd:isOf d c) (hk:K f=none)
 (e:qdg E (ev E K n) qa3 fn d args s=some r):(ev E K (n+1)).f f args s=some r:=runF_sound hf hb hd hk e
end Go.Proofs.YtafbipadnnmccaaDoor.Ev
namespace Go.Proofs.YtafbipadnnmccaaDoor.Ev
section
variable {s:St}
theorem cellOf_zero {c:Tr (Tr V)} {z i:Nat} (hi:i<z):qbd c z i=(c.get 0).bind fun t=>t.get i:=by
 unfold qbd;rw[Nat.div_eq_of_lt hi,Nat.mod_eq_of_lt hi]
end
open Go.RowKit Go.WideShapes Go.ChangeShapes
structure AsOk (P:Program) (f:FuncId) (tE tP rT tErr nG gE:Nat):Prop where
 nil:∀(t:Value) (w:World),Calls P f #[.nilIface,t] w fun e w'=>e=.returned (.bool false)/\w'=w
 hit:∀(e t:Addr) (old:Value) (w:World),w.cell? ⟨gE,0,none⟩=some (.iface rT (.agg #[.pointer (some ⟨nG,tErr,none⟩)]))->w.cell? t=some old->w.frozen? t=false->
  Calls P f #[.iface tE (.pointer (some e)),.iface tP (.pointer (some t))] w fun ev w'=>ev=.returned (.bool true)/\∃w1,Below w.heap.size w w1/\(storeCells t [.pointer (some e)] 0).run P w1=.ok () w'
def qit (rT bT tErr:Nat):V->Bool
 | .iface r (.agg n t)=>Nat.beq r rT&&Nat.beq n 1&&(match t.get 0 with
  | some (.ptr b o)=>Nat.beq b bT&&Nat.beq o tErr
  | _=>false)
 | _=>false
def asHit (gB:Nat) (rT bT tErr b1 o1 b2 o2:Nat) (s:St):Option (En×St):=
 (ld s gB 0).bind fun q=>bif qit rT bT tErr q.1 then(stK q.2 b2 o2 1 (one (.ptr b1 o1))).bind fun s=>some (.ret (.bool true),s)else none
def knAs (tE tP rT tErr gB bT:Nat):KF:=⟨fun args s=>match args with
 | [.niliface,_]=>some (.ret (.bool false),s)
 | [.iface t1 (.ptr b1 o1),.iface t2 (.ptr b2 o2)]=>bif Nat.beq t1 tE&&Nat.beq t2 tP then asHit gB rT bT tErr b1 o1 b2 o2 s else none
 | _=>none⟩
theorem loc_asHit (gB rT bT tErr b1 o1 b2 o2:Nat):LocP fun s=>asHit gB rT bT tErr b1 o1 b2 o2 s:=by
 unfold asHit;refine Loc.bind (loc_ld gB 0) fun q=>?_;have hs:LocP fun s=>(stK s b2 o2 1 (one (.ptr b1 o1))).bind fun s=>some (En.ret (V.bool true),s):=Loc.bindG (fun _=>rfl) (loc_stK b2 o2 1 _) fun s=>LocP.ret _;exact Loc.cond (c:=qit rT bT tErr q) hs Loc.none
theorem as_well {P:Program} {E:Env} {f:FuncId} {tE tP rT tErr nG gE gB bT:Nat} (hgB:E.glob.get gE=some gB) (hbT:E.glob.get nG=some bT) (h:AsOk P f tE tP rT tErr nG gE):KnWell P E f (knAs tE tP rT tErr gB bT):=by
 refine⟨fun args=>?_,fun w0 ρ s w args cargs v s' hR hv hg=>?_⟩
 . unfold knAs
   dsimp only;split
   . exact LocP.ret _
   . exact Loc.cond (loc_asHit _ _ _ _ _ _ _ _) Loc.none
   . exact Loc.none
 . unfold knAs at hg
   dsimp only at hg;split at hg
   . simp only[oS,pM]at hg
     obtain⟨rfl,rfl⟩:=hg;obtain⟨l'⟩:=cargs;cases hv with
     | cons hs ht=>
     cases ht with
     | cons hi hn=>
     cases hn;cases hs;refine(h.nil _ w).mono fun e w' hw=>?_;obtain⟨rfl,rfl⟩:=hw;exact⟨ρ,_,rfl,Rho.le_refl ρ,.bool false,hR⟩
   . rename_i t1 b1 o1 t2 b2 o2
     cases hc:(Nat.beq t1 tE&&Nat.beq t2 tP)with
     | false=>rw[hc]at hg; cases hg
     | true=>
     rw[hc]at hg;simp only[cT,bA,beq_true]at hg hc;obtain⟨rfl,rfl⟩:=hc;obtain⟨l'⟩:=cargs;cases hv with
     | cons hs ht=>
     cases ht with
     | cons hi hn=>
     cases hn;cases hs with
     | iface hs=>
     cases hi with
     | iface hi=>
     cases hs with
     | @ptr _ _ cb1 sh1 sz1 hρ1=>
     cases hi with
     | @ptr _ _ cb2 sh2 sz2 hρ2=>
     unfold asHit at hg;simp only[oI]at hg;obtain⟨⟨v0,s1⟩,hld,hg⟩:=hg;dsimp only at hg;cases hh:qit rT bT tErr v0 with
     | false=>rw[hh]at hg; cases hg
     | true=>
     rw[hh]at hg;simp only[cT,oI,oS,pM]at hg;obtain⟨s2,hst,rfl,rfl⟩:=hg;obtain⟨szg,hρg⟩:=hR.glob gE gB hgB;obtain⟨szt,hρt⟩:=hR.glob nG bT hbT;obtain⟨cv,hcell,hcv,_,hsame⟩:=ld_sim hR hld hρg
     have hcell2:w.cell? ⟨gE,0,none⟩=some (.iface rT (.agg #[.pointer (some ⟨nG,tErr,none⟩)])):=by
      rw[Nat.add_zero]at hcell;rw[hcell]
      congr 1
      unfold qit at hh;split at hh
      . rename_i r n t
        simp only[bA,beq_true]at hh;obtain⟨⟨rfl,rfl⟩,hh⟩:=hh;split at hh
        . rename_i b o hget
          simp only[bA,beq_true]at hh;obtain⟨rfl,rfl⟩:=hh;cases hcv with
          | iface hcv=>
          cases hcv with
          | @agg _ _ cs hn h1 h2=>
          obtain⟨l⟩:=cs
          match l,hn with
          | [x],_=>
           have hx:=h2 0 _ hget x rfl;cases hx with
           | ptr hρ=>
           rw[hρt]at hρ;simp only[oS,pM]at hρ;obtain⟨rfl,rfl,rfl⟩:=hρ;simp
        . cases hh
      . cases hh
     have hR1:Rel E w0 ρ s1 w:=hR.congr hsame.1 hsame.2;obtain⟨e,esz,n,tr,tr',hb,hle,hbig,hto,_⟩:=stK_inv hst;obtain⟨cs,fr,hc⟩:=qb1 hR1 hb hρ2;obtain⟨hB,hfree⟩:=hc.own rfl;have hroom:=hc.room;have hsize:=hc.size;have hlt:sh2+o2<cs.size:=by omega
     refine(h.hit ⟨cb1,sh1+o1,none⟩ ⟨cb2,sh2+o2,none⟩ cs[sh2+o2] w hcell2 (by rw[qc9 hc.heap]; exact Array.getElem?_eq_getElem hlt) (qhm hc.heap (hfree.not (by omega)))).mono fun ce w' hw=>?_;obtain⟨rfl,w1,hb1,hrun⟩:=hw;have hR2:=hR1.grown hb1
     obtain⟨w2,hrun2,hR3⟩:=stK_sim (P:=P) hR2 hst hρ2 (c:=[.pointer (some ⟨cb1,sh1+o1,none⟩)]) ⟨rfl,fun x hx=>by simp at hx; subst hx; rfl,fun i v hi cv hc=>by
      cases i with
      | zero=>
       have:v=.ptr b1 o1:=by
        have:(one (.ptr b1 o1)).get 0=some (.ptr b1 o1):=rfl;rw[this]at hi; exact(Option.some.inj hi).symm
       subst this;simp at hc; subst hc;exact .ptr hρ1
      | succ i=>simp at hc⟩ (o:=sh2+o2) (i:=0) (by omega)
     rw[hrun]at hrun2;simp only[Result.ok.injEq,true_and]at hrun2;subst hrun2;exact⟨ρ,_,rfl,Rho.le_refl ρ,.bool true,hR3⟩
   . cases hg
def sG (rT tErr e:Nat):St:={heap:=Tr.set .nil (.cells e 1 1 true (one2 (one (.iface rT (.agg 1 (one (.ptr 1 tErr))))))) 0,next:=2,on:=false,log:=[]}
where one2 (t:Tr V):Tr (Tr V):=.node .nil (some t) .nil
theorem relG {E:Env} {gE nG rT tErr e:Nat} (hg:∀g b,E.glob.get g=some b->(g=gE/\b=0)\/(g=nG/\b=1)) (w:World) {cs:Array Value} {fr:Nat×Nat} (hw:w.heap[gE]?=some (.cells cs e fr))
 (h0:cs[0]?=some (.iface rT (.agg #[.pointer (some ⟨nG,tErr,none⟩)]))):Rel E (base0 w) ⟨fun b=>if b=0 then some (gE,0,cs.size)else if b=1 then some (nG,0,0)else none,fun _=>none⟩ (sG rT tErr e) w:=by
 have hheap:∀b o,(sG rT tErr e).heap.get b=some o->b=0/\o=.cells e 1 1 true (sG.one2 (one (.iface rT (.agg 1 (one (.ptr 1 tErr)))))):=fun b o h=>by
  have h':(Tr.set .nil (.cells e 1 1 true (sG.one2 (one (.iface rT (.agg 1 (one (.ptr 1 tErr))))))) 0).get b=some o:=h;rw[Tr.get_set]at h';by_cases hb:b=0
  . rw[iP hb]at h'; exact⟨hb,(Option.some.inj h').symm⟩
  . rw[iN hb,Tr.get_nil]at h'; cases h'
 have hlt:gE<w.heap.size:=by
  rcases Nat.lt_or_ge gE w.heap.size with h|h
  . exact h
  . rw[Array.getElem?_eq_none h]at hw; cases hw
 have hcs:0<cs.size:=by
  rcases Nat.eq_zero_or_pos cs.size with h|h
  . rw[Array.getElem?_eq_none (by omega)]at h0; cases h0
  . exact h
 refine⟨⟨rfl,rfl,rfl,lR _,fun _ _=>rfl⟩,fun b hb=>?_,Nat.zero_le _,fun b o h=>?_,fun b b' o o' cb sh sz sh' sz' h h' m=>?_,fun g b h=>?_,fun k o h=>(by cases h),fun b o cb sh sz h m=>?_,fun k o h=>(by cases h)⟩
 . rcases hb with hb|hb
   . have hb':2<=b:=hb
     show(if b=0 then _ else if b=1 then _ else none)=none;rw[iN (by omega),iN (by omega)]
   . exact hb.elim
 . obtain⟨rfl,rfl⟩:=hheap b o h
   refine⟨gE,0,cs.size,cs,fr,rfl,hw,rfl,by omega,rfl,fun _=>hlt,fun h=>(by cases h),fun i cv hi h1 h2=>?_,fun off v cv h1 h2 h3=>?_⟩
   . have:i=0:=by omega
     subst this;rw[h0]at hi;obtain rfl:=Option.some.inj hi;rfl
   . have:off=0:=by omega
     subst this;rw[Nat.zero_add,h0]at h3;obtain rfl:=Option.some.inj h3
     have hv:v=.iface rT (.agg 1 (one (.ptr 1 tErr))):=by
      have:qbd (sG.one2 (one (.iface rT (.agg 1 (one (.ptr 1 tErr)))))) 1 0=some (.iface rT (.agg 1 (one (.ptr 1 tErr)))):=by kernel_rfl
      rw[this]at h1; exact(Option.some.inj h1).symm
     subst hv;refine .iface (.agg rfl (fun i cv hi=>?_) fun i v hi cv hc=>?_)
     . cases i with
       | zero=>simp at hi; subst hi; rfl
       | succ i=>simp at hi
     . cases i with
       | zero=>
        simp at hc; subst hc
        have:v=.ptr 1 tErr:=by
         have:(one (.ptr 1 tErr)).get 0=some (.ptr 1 tErr):=by kernel_rfl
         rw[this]at hi; exact(Option.some.inj hi).symm
        subst this;have:=VRel.ptr (ρ:=⟨fun b=>if b=0 then some (gE,0,cs.size)else if b=1 then some (nG,0,0)else none,fun _=>none⟩) (b:=1) (off:=tErr) (cb:=nG) (sh:=0) (sz:=0) rfl;rw[Nat.zero_add]at this;exact this
       | succ i=>simp at hc
 . obtain⟨_,rfl⟩:=hheap b o h
   cases m
 . rcases hg g b h with⟨rfl,rfl⟩|⟨rfl,rfl⟩
   . exact⟨cs.size,rfl⟩
   . exact⟨0,rfl⟩
 . obtain⟨_,rfl⟩:=hheap b o h
   cases m
end Go.Proofs.YtafbipadnnmccaaDoor.Ev
namespace Go.Proofs.YtafbipadnnmccaaDoor.Ev
open Classical
def rd (s:St) (b o k:Nat):St:={s with on:=true,log:=[{b:=b,lo:=o,hi:=o+k,w:=false}]}
section
variable {s:St}
theorem qbs (e n:Nat) (z:Tr V):(nwP e n z s).1=.ptr s.next 0:=rfl
theorem qc8 {pl:Plan} {s0:St} {i:Nat} {logs:List (List LE)} {v:V} {t:St} {k:V->St->Rs}:qlm pl s0 i logs (some (.ret v,t)) k=k v t:=rfl
theorem qfm {prs:List (Nat×List Nat)} {s0 s:St} {logs:List (List LE)} {k:St->Rs} (h:qag logs prs=true):qh7 prs s0 logs s k=k (qbh s0 s logs):=by
 unfold qh7;rw[h]; rfl
theorem foldK_max (k:IntKind) (x y:Int):qki maxV (.int k x) [.int k y] s=some (.int k (max x y),s):=by
 unfold qki foldV maxV;simp only[qcc,cT,qg3,oB,foldV];by_cases h:x<y
 . simp only[h,decide_true,cT]; rw[Int.max_eq_right (by omega)]
 . simp only[h,decide_false,cF]; rw[Int.max_eq_left (by omega)]
theorem foldK_min (k:IntKind) (x y:Int):qki minV (.int k x) [.int k y] s=some (.int k (min x y),s):=by
 unfold qki foldV minV;simp only[qcc,cT,qg3,oB,foldV];by_cases h:y<x
 . simp only[h,decide_true,cT]; rw[Int.min_eq_right (by omega)]
 . simp only[h,decide_false,cF]; rw[Int.min_eq_left (by omega)]
end
end Go.Proofs.YtafbipadnnmccaaDoor.Ev
namespace Go.Proofs.YtafbipadnnmccaaDoor.Ev
def rds (logs:List (List LE)):Bool:=logs.all fun L=>L.all fun e=>!e.w
theorem clash1_rd {e:LE} (he:e.w=false):∀l:List LE,(∀f∈l,f.w=false)->qgf e l=false
 | [],_=>rfl
 | f::l,h=>by
  unfold qgf;have:meet e f=false:=by unfold meet; rw[he,h f (List.mem_cons_self ..)]; cases Nat.beq e.b f.b<;>rfl
  rw[this];exact clash1_rd he l fun g hg=>h g (mO _ hg)
theorem clash_rd:∀(a b:List LE),(∀f∈a,f.w=false)->(∀f∈b,f.w=false)->qbi a b=false
 | [],_,_,_=>rfl
 | e::a,b,h,hb=>by
  unfold qbi;rw[clash1_rd (h e (List.mem_cons_self ..)) b hb];exact clash_rd a b (fun f hf=>h f (mO _ hf)) hb
theorem logOf_rd:∀(i:Nat) (logs:List (List LE)),(∀L∈logs,∀f∈L,f.w=false)->∀f∈qg7 i logs,f.w=false
 | _,[],_,f,hf=>by cases hf
 | i,L::logs,h,f,hf=>by
  unfold qg7 at hf;cases hi:Nat.beq i 0 with
  | true=>rw[hi]at hf; exact h L (List.mem_cons_self ..) f hf
  | false=>rw[hi]at hf; exact logOf_rd (i-1) logs (fun M hM=>h M (mO _ hM)) f hf
theorem qlq {x:List LE} (hx:∀f∈x,f.w=false) {logs:List (List LE)} (h:∀L∈logs,∀f∈L,f.w=false):∀js:List Nat,qea x logs js=false
 | []=>rfl
 | j::js=>by
  unfold qea;rw[clash_rd x _ hx (logOf_rd j logs h)];exact qlq hx h js
theorem pairsOk_rd {logs:List (List LE)} (h:∀L∈logs,∀f∈L,f.w=false):∀prs:List (Nat×List Nat),qag logs prs=true
 | []=>rfl
 | (i,js)::l=>by
  unfold qag;rw[qlq (logOf_rd i logs h) h js];exact pairsOk_rd h l
theorem qbq {prs:List (Nat×List Nat)} {s0 s:St} {logs:List (List LE)} {k:St->Rs} (h:rds logs=true):qh7 prs s0 logs s k=k (qbh s0 s logs):=by
 refine qfm (pairsOk_rd (fun L hL f hf=>?_) prs);have h1:=List.all_eq_true.1 (List.all_eq_true.1 h L hL) f hf;simpa using h1
def St.lg (s:St) (l:List LE):St:={s with on:=true,log:=l}
section
variable {s s':St}
theorem qj0:onS s=s.lg []:=rfl
theorem qdk (l:List LE):onS (s.lg l)=onS s:=rfl
theorem note_lg (l:List LE) (b lo hi:Nat) (w:Bool):(s.lg l).note b lo hi w=s.lg ({b:=b,lo:=lo,hi:=hi,w:=w}::l):=rfl
theorem put_lg (l:List LE) (b:Nat) (o:O):(s.lg l).put b o=(s.put b o).lg l:=rfl
theorem stK_lg (ho:s.on=false) {b off k:Nat} {t:Tr V} (h:stK s b off k t=some s') (l:List LE):s'.on=false/\∃l',stK (s.lg l) b off k t=some (s'.lg l'):=by
 unfold stK at h;split at h
 . rename_i e esz n ro c hb
   cases hc:(Nat.ble (off+k) (esz*n)&&Nat.blt (esz*n) big&&!ro)with
   | false=>rw[hc]at h; cases h
   | true=>
    rw[hc]at h;simp only[cT,oI,oS]at h;obtain⟨c',hc',rfl⟩:=h;refine⟨by rw[qau ho]; exact ho,{b:=b,lo:=off,hi:=off+k,w:=true}::l,?_⟩;unfold stK;rw[show(s.lg l).heap.get b=_ from hb];simp only;rw[hc,hc'];simp only[cT,oB];rw[note_lg,put_lg,qau ho]
 . cases h
end
open Classical
section
variable {α:Type} (enc:α->List V) (pre post:α->List (Nat×O)) (out:α->En)
variable {enc pre post out}
end
end Go.Proofs.YtafbipadnnmccaaDoor.Ev
namespace Go.Proofs.YtafbipadnnmccaaDoor.Ev
noncomputable section
def opsSK (E:Env) (self:EV) (ops:Array Oper) (l:List Oper) (k:Ac->Md->St->Rs):Ac->Md->St->Rs:=
 List.rec (motive:=fun _=>Ac->Md->St->Rs) k (fun o _ ih a m s=>
  bif qdj o then putK o.dst a (recV m).1 fun a=>ih a (recV m).2 s
  else oneK E {self with r:=fun _ _ _=>none} ops o a s (fun a s=>ih a m s) (fun _ _ _=>none)) l
def evK (E:Env) (self:EV):Nat->Code->(Ac->Md->St->Rs)->(Ac->Md->St->Rs)->Ac->Md->St->Rs
 | 0,_,_,_,_,_,_=>none
 | d+1,c,K,R,a,m,s=>
  match c with
  | .seq x y=>evK E self d x (fun a m s=>evK E self d y K R a m s) R a m s
  | .cond c x y=>(evO E a c).bind fun v=>ifK v (evK E self d x K R a m s) (evK E self d y K R a m s)
  | .region _ ops false=>opsSK E self ops ops.toList K a m s
  | .skip=>K a m s
  | .ret=>R a m s
  | _=>none
def lvK (E:Env) (self:EV) (fn:Func) (a:Ac) (l:List AD):Md->St->Rs:=
 List.rec (motive:=fun _=>Md->St->Rs)
  (fun m s=>match m with
   | .ret=>resK E a fn.results.toList (fun vs s=>some (.ret (oneOr vs),s)) s
   | .pan v=>some (.pan v,s)
   | .got _=>none)
  (fun d _ ih m s=>match d.mark,d.f with
   | none,.func f=>(E.fns.get f).bind fun g=>g.body.bind fun c=>
    bif Nat.ble (d.args++d.captured).length g.ntmps&&Nat.beq g.results.toList.length 0 then evK E self 50 c (fun _ m s=>ih (qia m) s) (fun _ m s=>ih (qia m) s) (qi1 g (d.args++d.captured)) m s else none
   | _,_=>none) l
section
variable {E:Env} {self:EV} {a b:Ac} {s:St} {r:En×St}
def KSk (K R:Ac->Md->St->Rs) (x:X) (b:Ac) (m:Md) (s:St) (r:En×St):Prop:=
 ∃a,ALe a b/\match x with
  | .norm=>K a m s=some r
  | .ret=>R a m s=some r
  | _=>False
theorem qi6 {ops:Array Oper} {K R:Ac->Md->St->Rs}:∀(l:List Oper) {a b:Ac} {m:Md} {s:St},ALe a b->opsSK E self ops l K a m s=some r->
 ∃x b' m' s',opsS E self ops l b m s=some (x,b',m',s')/\b'.defers=b.defers/\KSk K R x b' m' s' r
 | [],a,b,m,s,h,e=>⟨.norm,b,m,s,rfl,rfl,a,h,e⟩
 | o::l,a,b,m,s,h,e=>by
  have e':(bif qdj o then putK o.dst a (recV m).1 fun a=>opsSK E self ops l K a (recV m).2 s
   else oneK E {self with r:=fun _ _ _=>none} ops o a s (fun a s=>opsSK E self ops l K a m s) (fun _ _ _=>none))=some r:=e
  simp only[opsS];cases hr:qdj o with
  | true=>
   rw[hr]at e';simp only[cT]at e' ⊢;obtain⟨a',b',h1,h2,h3,h4⟩:=qhd h e';obtain⟨x,b2,m2,s2,k1,k2,k3⟩:=qi6 (R:=R) l h2 h4;refine⟨x,b2,m2,s2,?_,k2.trans h3,k3⟩;have hp:b.put o.dst (recV m).1=some b':=h1;rw[hp]; exact k1
  | false=>
   rw[hr]at e';simp only[cF]at e' ⊢;obtain⟨x,b',s',h1,h2,h3⟩:=qjn h e';rw[h1];rcases h3 with⟨rfl,a',h3,h4⟩|⟨v,a',rfl,h3,h4⟩
   . obtain⟨x,b2,m2,s2,k1,k2,k3⟩:=qi6 (R:=R) l h3 h4
     exact⟨x,b2,m2,s2,k1,k2.trans h2,k3⟩
   . cases h4
theorem qgh {R:Ac->Md->St->Rs}:∀(d:Nat) (c:Code) (K:Ac->Md->St->Rs) {a b:Ac} {m:Md} {s:St},ALe a b->evK E self d c K R a m s=some r->
 ∃x b' m' s',evS E self d c b m s=some (x,b',m',s')/\b'.defers=b.defers/\KSk K R x b' m' s' r
 | 0,_,_,_,_,_,_,_,e=>by cases e
 | d+1,c,K,a,b,m,s,h,e=>by
  unfold evK at e;split at e
  . rename_i x y
    obtain⟨q,b',m',s',h1,h2,a',h3,h4⟩:=qgh d x _ h e;simp only[evS];rw[h1];cases q with
    | norm=>
     obtain⟨q,b2,m2,s2,k1,k2,k3⟩:=qgh d y K h3 h4;exact⟨q,b2,m2,s2,k1,k2.trans h2,k3⟩
    | ret=>exact⟨.ret,b',m',s',rfl,h2,a',h3,h4⟩
    | exit i=>cases h4
    | pan v=>cases h4
  . rename_i c x y
    simp only[oI]at e;obtain⟨v,hv,e⟩:=e;simp only[evS];rw[qaf h hv];cases v with
    | bool w=>
     cases w with
     | true=>exact qgh d x K h e
     | false=>exact qgh d y K h e
    | _=>cases e
  . rename_i ops
    exact qi6 _ h e
  . exact⟨.norm,b,m,s,rfl,rfl,a,h,e⟩
  . exact⟨.ret,b,m,s,rfl,rfl,a,h,e⟩
  . cases e
theorem qmb {fn:Func}:∀{l:List AD} {m:Md} {s:St},ALe a b->lvK E self fn a l m s=some r->qbk E self fn b l m s=some r
 | [],m,s,h,e=>by
  cases m with
  | ret=>
   obtain⟨vs,s',h1,h2⟩:=qhe (l:=fn.results.toList) e;simp only[qbk];rw[qfu h h1]; exact h2
  | pan v=>exact e
  | got v=>cases e
 | d::ds,m,s,h,e=>by
  have e':(match d.mark,d.f with
   | none,.func f=>(E.fns.get f).bind fun g=>g.body.bind fun c=>
    bif Nat.ble (d.args++d.captured).length g.ntmps&&Nat.beq g.results.toList.length 0 then evK E self 50 c (fun _ m s=>lvK E self fn a ds (qia m) s) (fun _ m s=>lvK E self fn a ds (qia m) s) (qi1 g (d.args++d.captured)) m s else none
   | _,_=>none)=some r:=e
  simp only[qbk];split at e'
  . rename_i f hm hf
    rw[hm,hf];simp only[oI]at e';obtain⟨g,hg,c,hc,e'⟩:=e';simp only;rw[hg];simp only[oB];rw[hc];simp only[oB];cases hn:Nat.ble (d.args++d.captured).length g.ntmps with
    | false=>rw[hn]at e'; cases e'
    | true=>
     rw[hn]at e';cases h0:Nat.beq g.results.toList.length 0 with
     | false=>rw[h0]at e'; cases e'
     | true=>
     rw[h0]at e';simp only[Bool.and_self,cT]at e' ⊢;obtain⟨x,b',m',s',h1,h2,a',h3,h4⟩:=qgh 50 c _ (ALe.refl _) e';rw[h1];simp only[oB];have hd:b'.defers.length=0:=by rw[h2]; rfl
     have hl:g.results.toList=[]:=List.length_eq_zero_iff.1 (beq_true.1 h0);rw[hd,hl]
     have key:lvK E self fn a ds (qia m') s'=some r:=by
      cases x with
      | norm=>exact h4
      | ret=>exact h4
      | exit i=>exact h4.elim
      | pan v=>exact h4.elim
     have hq:quiet x=true:=by
      cases x with
      | norm=>rfl
      | ret=>rfl
      | exit i=>exact h4.elim
      | pan v=>exact h4.elim
     rw[hq];simp only[qay,oB];exact qmb h key
  . cases e'
end
def frD (n:Nat) (l:List (Nat×V)) (ds:List AD):Ac:={tmps:=frT l .nil,n:=n,defers:=ds,round:=none}
def qhl (E:Env) (self:EV) (fn:Func) (a:Ac) (r:Rs) (k:V->St->Rs):Rs:=onEn r k fun v s=>qbk E self fn a a.defers (.pan v) s
theorem qch {E:Env} {self:EV} {fn:Func} {a:Ac} {v:V} {s:St} {k:V->St->Rs}:qhl E self fn a (some (.ret v,s)) k=k v s:=rfl
theorem callPF_pan {E:Env} {self:EV} {fn:Func} {a:Ac} {v:V} {s:St} {k:V->St->Rs}:qhl E self fn a (some (.pan v,s)) k=qbk E self fn a a.defers (.pan v) s:=rfl
def adOf (v:V) (args:List V):AD:=
 match v with
 | .fn g first captured=>{mark:=none,f:=g,captured:=captured,args:=first++args}
 | _=>{mark:=none,f:=.func 0,captured:=[],args:=[]}
def ad (f:FuncId) (args captured:List V):AD:={mark:=none,f:=.func f,captured:=captured,args:=args}
theorem adOf_fn (f:FuncId) (captured:List V):adOf (.fn (.func f) [] captured) []=ad f [] captured:=rfl
def callE (r:Rs) (k:V->St->Rs):Rs:=onEn r k fun _ _=>none
theorem finR_defer {E:Env} {self:EV} {fn:Func} {a:Ac} {s:St} {d:AD} {ds:List AD} (h:a.defers=d::ds):finR E self fn a s=qbk E self fn a (d::ds) .ret s:=by
 unfold finR;rw[h]
end
noncomputable section
section
variable {E:Env} {self:EV} {r:En×St}
end
def D.as:D->Code
 | .range _ _ x _=>x
 | _=>.skip
section
variable {E:Env} {self:EV} {s:St}
end
end
structure OneV (v:V):Prop where
 size:v.size=1
 cells:v.cells=one v
 tup:qaa v=false
 agg:isAgg v=false
theorem oneV_sv (l:List UInt8):OneV (sv l):=⟨rfl,rfl,rfl,rfl⟩
section
variable {s:St}
theorem bsP_one (ho:s.on=false) (e:Nat) (z:Tr V) {v:V} (hv:OneV v):∃t,bsP e 1 1 z [(0,v)] s=some (.slice s.next 0 1 1,t)/\RowAt t s.next e 1 [one v]/\Grew (fun _=>False) s t/\t.next=s.next+1:=by
 refine⟨nw s (.cells e 1 1 false ((Tr.tab 1 1 fun _=>z).set (one v) 0)),?_,?_,qeo ho _ _,rfl⟩
 . unfold bsP qgi qgi
   simp only[hv.size,hv.tup,hv.cells,Nat.beq_refl,nF,Bool.and_true,show Nat.blt 0 1=true from rfl,cT,Tr.setC_eq,oB]
 . refine qfv ho (by omega) rfl (by unfold big; omega) fun i t h=>?_
   rw[Tr.get_set];cases i with
   | zero=>simpa using h
   | succ i=>simp at h
theorem ap1_first (ho:s.on=false) {e B b:Nat} {t:Tr V} (h:RowAt s b e 1 [t]) (hB:B+2<qai):∃u,apP e 1 B .nilslice (.slice b 0 1 1) s=some (.oslice s.next 0 1 1,u)/\RowAt u s.next e 1 [t]/\Grew (fun _=>False) s u/\u.next=s.next+1:=by
 refine⟨qan s e 1 [t],?_,qev ho (by omega) (by unfold big; simp),qeo ho _ _,rfl⟩;unfold apP;simp only[lenV,oB,blt_true.2 (show(0+1)*(B+1+1)<qai by omega),cT];unfold qcs qb7;have:=h.ldN ho 1 0 (by simp);simp only[Nat.zero_mul,List.drop_zero]at this;simp only[this,oB,show Nat.beq 1 0=false from rfl,cF];rfl
theorem ap1_more (ho:s.on=false) {e B b r:Nat} {t:Tr V} {l:List (Tr V)} (h:RowAt s b e 1 [t]) (hr:RowAt s r e 1 l) (hl:(l.length+1)*(B+2)<qai) (hbig:l.length+1<big):∃u,apP e 1 B (.oslice r 0 l.length 1) (.slice b 0 1 1) s=some (.oslice s.next 0 (l.length+1) 1,u)/\RowAt u s.next e 1 (l++[t])/\Grew (fun x=>x=r) s u/\u.next=s.next+1:=by
 obtain⟨c,hc1,hc2⟩:=hr.row;have hfit:=hr.fit;refine⟨nw (s.put r .dead) (.cells e 1 (l.length+1) false (c.set t l.length)),?_,?_,?_,rfl⟩
 . unfold apP
   have hm:Nat.blt ((l.length+1)*(B+1+1)) qai=true:=by rw[blt_true]; exact hl
   simp only[lenV,oB,hm,cT];unfold qcs qb7;have:=h.ldN ho 1 0 (by simp);simp only[Nat.zero_mul,List.drop_zero]at this;simp only[this,oB,show Nat.beq 1 1=true from rfl,cT];unfold qic;rw[hc1]
   have hb:Nat.ble (0+(l.length+1)*1) (1*l.length)=false:=by
    cases hh:Nat.ble (0+(l.length+1)*1) (1*l.length)with
    | false=>rfl
    | true=>rw[ble_true]at hh; omega
   simp only[blt_true.2 hfit,cT,oB,qau ho,hb,cF];unfold qjh;rw[hc1];simp only[Nat.beq_refl,Bool.not_true,Bool.or_self,cF,show Nat.beq 1 1=true from rfl,show Nat.beq 0 0=true from rfl,blt_true.2 hfit,Bool.and_self,cT];rw[show List.take 1 [t]=[t]from rfl];unfold addLC addLC;rw[Tr.setC_eq];unfold setO;rw[qau ho]
 . have hnx:(s.put r .dead).next=s.next:=rfl
   have:=qfv (s:=s.put r .dead) (e:=e) (z:=1) (n:=l.length+1) (c:=c.set t l.length) (l:=l++[t]) ho (by omega) (by simp) (by omega) fun i u h=>by
    rw[Tr.get_set];by_cases hi:i=l.length
    . subst hi
      rw[iP rfl];simpa using h
    . rw[iN hi]
      have hlt:=(List.getElem?_eq_some_iff.1 h).1;rw[lAq,List.length_singleton]at hlt;rw[List.getElem?_append_left (by omega)]at h;exact hc2 i u h
   exact this
 . exact⟨by show s.next<=s.next+1; omega,(nw_on (s:=s.put r .dead) ho _).trans ho.symm,fun x hx hw=>by
    rw[qgo,iN (by show x≠s.next; omega),qft,iN hw]⟩
end
end Go.Proofs.YtafbipadnnmccaaDoor.Ev
namespace Go.Proofs.YtafbipadnnmccaaDoor.Ev.Lg
open Go.Proofs.YtafbipadnnmccaaDoor.Ev
structure Same (s t:St):Prop where
 next:t.next=s.next
 heap:t.heap=s.heap
theorem Same.refl (s:St):Same s s:=⟨rfl,rfl⟩
def Loc {β:Type} (st:β->St) (up:β->St->β) (f:St->Option β):Prop:=
 ∀s r,f s=some r->(st r).on=s.on/\∀t,Same s t->∃t',f t=some (up r t')/\Same (st r) t'/\t'.on=t.on
abbrev LocP {α:Type} (f:St->Option (α×St)):Prop:=Loc Prod.snd upP f
abbrev LocS (f:St->Option St):Prop:=Loc id upS f
abbrev LocN (f:St->Option Nx):Prop:=Loc Nx.st Nx.up f
section
variable {α β γ:Type} {st:β->St} {up:β->St->β} {st1:γ->St} {up1:γ->St->γ}
theorem Loc.none:Loc st up fun _=>none:=fun _ _ h=>by cases h
theorem Loc.bindG (hup:∀r,up1 r (st1 r)=r) {f:St->Option γ} {g:γ->Option β} (hf:Loc st1 up1 f) (hg:∀r,Loc st up fun s=>g (up1 r s)):Loc st up fun s=>(f s).bind g:=by
 intro s r h;simp only[oI]at h;obtain⟨q,h1,h2⟩:=h;obtain⟨o1,l1⟩:=hf s _ h1;obtain⟨o2,l2⟩:=hg q (st1 q) r (by simp only[hup]; exact h2);refine⟨o2.trans o1,fun t hA=>?_⟩;obtain⟨t1,e1,A1,p1⟩:=l1 t hA;obtain⟨t2,e2,A2,p2⟩:=l2 t1 A1;exact⟨t2,by simp only[e1,oB]; exact e2,A2,p2.trans p1⟩
theorem Loc.bind {f:St->Option (α×St)} {g:α×St->Option β} (hf:LocP f) (hg:∀a,Loc st up fun s=>g (a,s)):Loc st up fun s=>(f s).bind g:=
 Loc.bindG (up1:=upP) (fun _=>rfl) hf fun r=>hg r.1
theorem Loc.bindS {f:St->Option St} {g:St->Option β} (hf:LocS f) (hg:Loc st up g):Loc st up fun s=>(f s).bind g:=
 Loc.bindG (up1:=upS) (fun _=>rfl) hf fun _=>hg
theorem Loc.opt {o:Option α} {g:α->St->Option β} (hg:∀a,Loc st up (g a)):Loc st up fun s=>o.bind fun a=>g a s:=by
 cases o with
 | none=>exact Loc.none
 | some a=>exact hg a
theorem Loc.cond {c:Bool} {f g:St->Option β} (hf:Loc st up f) (hg:Loc st up g):Loc st up fun s=>bif c then f s else g s:=by
 cases c
 . exact hg
 . exact hf
theorem Loc.of_eq {f g:St->Option β} (h:∀s,f s=g s) (hg:Loc st up g):Loc st up f:=by
 rw[show f=g from funext h]; exact hg
theorem LocP.ret (a:α):LocP fun s=>some (a,s):=fun s r h=>by
 simp only[oS]at h;subst h;exact⟨rfl,fun t hA=>⟨t,rfl,hA,rfl⟩⟩
theorem LocS.ret:LocS fun s=>some s:=fun s r h=>by
 simp only[oS]at h;subst h;exact⟨rfl,fun t hA=>⟨t,rfl,hA,rfl⟩⟩
theorem LocN.ret (v:V):LocN fun s=>some (.val v s):=fun s r h=>by
 simp only[oS]at h;subst h;exact⟨rfl,fun t hA=>⟨t,rfl,hA,rfl⟩⟩
theorem LocN.vS {f:St->Option (V×St)} (h:LocP f):LocN fun s=>vS (f s):=Loc.bind (g:=fun p=>some (Nx.val p.1 p.2)) h fun _=>LocN.ret _
theorem LocN.uS {f:St->Option St} (h:LocS f):LocN fun s=>uS (f s):=Loc.bindS (g:=fun s=>some (Nx.val (.tuple []) s)) h (LocN.ret _)
theorem LocN.pS (o:Option V):LocN fun s=>pS o s:=Loc.opt (g:=fun v s=>some (Nx.val v s)) fun _=>LocN.ret _
end
theorem qef (s:St) (b lo hi:Nat) (x:Bool):(s.note b lo hi x).on=s.on:=by unfold St.note; cases s; rename_i h n on l; cases on<;>rfl
theorem qix {s t:St} (h:Same s t) (b lo hi:Nat) (x:Bool):Same (s.note b lo hi x) (t.note b lo hi x):=⟨by rw[qe6,qe6]; exact h.next,by rw[qam,qam]; exact h.heap⟩
theorem LocP.read {α:Type} {b lo hi:Nat} (k:Option O->Option α):LocP fun s=>(k (s.heap.get b)).bind fun a=>some (a,s.note b lo hi false):=by
 intro s r h;simp only[oI,oS]at h;obtain⟨a,ha,rfl⟩:=h;refine⟨qef ..,fun t hA=>⟨t.note b lo hi false,?_,qix hA ..,qef ..⟩⟩;simp only[hA.heap,ha,oB]
theorem put_same {s t:St} (h:Same s t) (b:Nat) (o:O):Same (s.put b o) (t.put b o):=⟨h.next,by show t.heap.setS o b=s.heap.setS o b; rw[h.heap]⟩
theorem LocS.write {b lo hi:Nat} (k:Option O->Option O):LocS fun s=>(k (s.heap.get b)).bind fun o=>some ((s.note b lo hi true).put b o):=by
 intro s r h;simp only[oI,oS]at h;obtain⟨o,ho,rfl⟩:=h;refine⟨qef ..,fun t hA=>⟨(t.note b lo hi true).put b o,?_,put_same (qix hA ..) ..,qef ..⟩⟩;simp only[hA.heap,ho,oB]
theorem LocS.setO (b:Nat) (o:O):LocS fun s=>some (setO s b o):=fun s r h=>by
 simp only[oS]at h;subst h;exact⟨qef ..,fun t hA=>⟨Ev.setO t b o,rfl,put_same (qix hA ..) ..,qef ..⟩⟩
theorem nw_same {s t:St} (h:Same s t) (o:O):Same (nw s o) (nw t o):=by
 unfold nw;have hp:=put_same (qix h s.next 0 big true) s.next o
 rw[h.next];exact⟨rfl,hp.heap⟩
theorem LocP.nw {α:Type} (k:Nat->α) (o:Nat->O):LocP fun s=>some (k s.next,nw s (o s.next)):=fun s r h=>by
 simp only[oS]at h;subst h;exact⟨qef ..,fun t hA=>⟨Ev.nw t (o s.next),by simp only[hA.next],nw_same hA _,qef ..⟩⟩
theorem LocN.nw (k:Nat->V) (o:Nat->O):LocN fun s=>some (.val (k s.next) (nw s (o s.next))):=
 Loc.of_eq (fun _=>rfl) (LocN.vS (LocP.nw k o))
theorem loc_ldK (b off k:Nat):LocP fun s=>ldK s b off k:=
 Loc.of_eq (fun s=>by
  unfold ldK;split
  . rename_i e esz n ro c h
    cases hc:(Nat.ble (off+k) (esz*n)&&Nat.blt (esz*n) big)
    . rw[h]; simp only[hc]; rfl
    . rw[h]; simp only[hc,cT]
  . rename_i h
    cases ho:s.heap.get b with
    | none=>rfl
    | some o=>cases o<;>first|rfl|exact absurd ho (h _ _ _ _ _))
  (LocP.read (b:=b) (lo:=off) (hi:=off+k) fun o=>match o with
   | some (.cells _ esz n _ c)=>bif Nat.ble (off+k) (esz*n)&&Nat.blt (esz*n) big then qg1 c esz off k else none
   | _=>none)
theorem loc_ld (b off:Nat):LocP fun s=>ld s b off:=
 Loc.of_eq (fun s=>by
  unfold ld;split
  . rename_i e esz n ro c h
    cases hc:(Nat.blt off (esz*n)&&Nat.blt (esz*n) big)
    . rw[h]; simp only[hc]; rfl
    . rw[h]; simp only[hc,cT]
      cases c.get (off/esz)with
      | none=>rfl
      | some t=>simp only[oB]
  . rename_i h
    cases ho:s.heap.get b with
    | none=>rfl
    | some o=>cases o<;>first|rfl|exact absurd ho (h _ _ _ _ _))
  (LocP.read (b:=b) (lo:=off) (hi:=off+1) fun o=>match o with
   | some (.cells _ esz n _ c)=>bif Nat.blt off (esz*n)&&Nat.blt (esz*n) big then(c.get (off/esz)).bind fun t=>t.get (off%esz)else none
   | _=>none)
theorem loc_getO (b:Nat):LocP fun s=>qky s b:=LocP.read (b:=b) (lo:=0) (hi:=big) fun o=>o
theorem loc_sizeB (b:Nat):LocP fun s=>qic s b:=
 Loc.of_eq (fun s=>by
  unfold qic;split
  . rename_i e esz n ro c h
    cases hc:(Nat.blt (esz*n) big)
    . rw[h]; simp only[hc]; rfl
    . rw[h]; simp only[hc,cT,oB]
  . rename_i h
    cases ho:s.heap.get b with
    | none=>rfl
    | some o=>cases o<;>first|rfl|exact absurd ho (h _ _ _ _ _))
  (LocP.read (b:=b) (lo:=big-1) (hi:=big) fun o=>match o with
   | some (.cells _ esz n _ _)=>bif Nat.blt (esz*n) big then some (esz*n)else none
   | _=>none)
theorem loc_stK (b off k:Nat) (t:Tr V):LocS fun s=>stK s b off k t:=
 Loc.of_eq (fun s=>by
  unfold stK;split
  . rename_i e esz n ro c h
    cases hc:(Nat.ble (off+k) (esz*n)&&Nat.blt (esz*n) big&&!ro)
    . rw[h]; simp only[hc]; rfl
    . rw[h]; simp only[hc,cT]
      cases qg2 c esz off k t<;>rfl
  . rename_i h
    cases ho:s.heap.get b with
    | none=>rfl
    | some o=>cases o<;>first|rfl|exact absurd ho (h _ _ _ _ _))
  (LocS.write (b:=b) (lo:=off) (hi:=off+k) fun o=>match o with
   | some (.cells e esz n ro c)=>bif Nat.ble (off+k) (esz*n)&&Nat.blt (esz*n) big&&!ro then(qg2 c esz off k t).bind fun c=>some (.cells e esz n false c)else none
   | _=>none)
theorem loc_ldN (b k:Nat):∀(n off:Nat),LocP fun s=>ldN b k n off s
 | 0,_=>LocP.ret []
 | n+1,off=>by
  unfold ldN
  exact Loc.bind (loc_ldK b off k) fun a=>by
   dsimp only;exact Loc.bind (loc_ldN b k n (off+k)) fun _=>by dsimp only; exact LocP.ret _
theorem loc_stN (b k:Nat):∀(l:List (Tr V)) (off:Nat),LocS fun s=>stN b k l off s
 | [],_=>LocS.ret
 | t::l,off=>Loc.bindS (g:=fun s=>stN b k l (off+k) s) (loc_stK b off k t) (loc_stN b k l (off+k))
theorem loc_loadV (E:Env) (t:TypeId) (b off:Nat):LocP fun s=>loadV E t b off s:=by
 unfold loadV;refine Loc.opt fun g=>Loc.cond ?_ (loc_ld b off);refine Loc.opt fun n=>Loc.bind (loc_ldK b off n) fun _=>by dsimp only; exact LocP.ret _
theorem loc_storeV (E:Env) (t:TypeId) (b off:Nat) (v:V):LocS fun s=>qkd E t b off v s:=by
 unfold qkd;exact Loc.opt fun n=>Loc.cond (loc_stK b off n _) Loc.none
theorem loc_sliceV (E:Env) (t:TypeId) (x:V) (lo hi mx:Option V):LocP fun s=>qak E t x lo hi mx s:=by
 unfold qak;refine Loc.opt fun d=>?_;cases d<;>try exact Loc.none
 case string=>cases x<;>cases mx<;>first|exact Loc.none|exact Loc.opt fun _=>LocP.ret _
 case array=>
  cases x<;>try exact Loc.none
  exact Loc.opt fun _=>Loc.opt fun _=>LocP.ret _
 case slice=>
  cases x<;>try exact Loc.none
  case slice=>exact Loc.opt fun _=>Loc.opt fun _=>LocP.ret _
  case oslice b off len z=>
   refine Loc.opt fun z'=>Loc.cond ?_ Loc.none;refine Loc.bind (loc_sizeB b) fun k=>?_;dsimp only;refine Loc.opt fun p=>?_;cases mx with
   | some _=>exact LocP.ret _
   | none=>exact Loc.cond (LocP.ret _) (Loc.cond (LocP.ret _) Loc.none)
  case eslice=>exact Loc.opt fun _=>Loc.opt fun _=>LocP.ret _
  case nilslice=>exact Loc.opt fun _=>Loc.opt fun _=>LocP.ret _
  case list z l=>
   refine Loc.opt fun z'=>?_;cases mx with
   | some _=>exact Loc.none
   | none=>exact Loc.cond (Loc.opt fun _=>LocP.ret _) Loc.none
theorem loc_firstV (size n:Nat) (x:V):LocP fun s=>qb7 size n x s:=by
 cases x<;>try exact Loc.none
 case str=>exact Loc.cond (LocP.ret _) Loc.none
 case slice=>exact loc_ldN _ _ _ _
 case oslice=>exact loc_ldN _ _ _ _
 case eslice=>exact Loc.cond (LocP.ret _) Loc.none
 case nilslice=>exact Loc.cond (LocP.ret _) Loc.none
 case list=>exact Loc.cond (LocP.ret _) Loc.none
theorem loc_growV (elem:TypeId) (size n b off len:Nat) (l:List (Tr V)):LocP fun s=>qjh elem size n b off len l s:=by
 intro s r h;unfold qjh at h;simp only[qdd]at h;split at h
 . rename_i e esz m ro c hb
   cases h1:(ro||!Nat.beq e elem)with
   | true=>rw[h1]at h; cases h
   | false=>
   rw[h1]at h;simp only[cF]at h;cases h2:(Nat.beq esz size&&Nat.beq off 0&&Nat.beq m len&&Nat.blt (esz*m) big)with
   | true=>
    rw[h2]at h;simp only[cT]at h
    have hl:LocP fun s=>some (V.oslice s.next 0 (len+n) size,nw (setO s b .dead) (.cells elem size (len+n) false (addL c l len))):=by
     refine Loc.of_eq (g:=fun s=>((fun s=>some (setO s b .dead)) s).bind fun s=>some (V.oslice s.next 0 (len+n) size,nw s (.cells elem size (len+n) false (addL c l len)))) (fun s=>?_) (Loc.bindS (LocS.setO b .dead) (LocP.nw (fun k=>V.oslice k 0 (len+n) size) fun _=>_));simp only[oB];have:(setO s b .dead).next=s.next:=by show(s.note b 0 big true).next=_; unfold St.note; cases s.on<;>rfl
     rw[this]
    obtain⟨g1,l1⟩:=hl s r h;refine⟨g1,fun t hA=>?_⟩;obtain⟨t',e1,A1⟩:=l1 t hA;refine⟨t',?_,A1⟩;unfold qjh;simp only[qdd];rw[hA.heap,hb];simp only[h1,h2,cT,cF];exact e1
   | false=>
    rw[h2]at h;simp only[cF]at h;cases h3:(Nat.beq esz size&&Nat.beq (off%size) 0)with
    | false=>rw[h3]at h; cases h
    | true=>
    rw[h3]at h;simp only[cT]at h
    have hl:LocP fun s=>(ldN b size len off s).bind fun q=>some (V.oslice q.2.next 0 (len+n) size,qan (setO q.2 b .dead) elem size (q.1++l)):=by
     refine Loc.bind (loc_ldN b size len off) fun a=>?_;refine Loc.of_eq (g:=fun s=>((fun s=>some (setO s b .dead)) s).bind fun s=>some (V.oslice s.next 0 (len+n) size,qan s elem size (a++l))) (fun s=>?_) (Loc.bindS (LocS.setO b .dead) (LocP.nw (fun k=>V.oslice k 0 (len+n) size) fun _=>_));simp only[oB];have:(setO s b .dead).next=s.next:=by show(s.note b 0 big true).next=_; unfold St.note; cases s.on<;>rfl
     rw[this]
    obtain⟨g1,l1⟩:=hl s r h;refine⟨g1,fun t hA=>?_⟩;obtain⟨t',e1,A1⟩:=l1 t hA;refine⟨t',?_,A1⟩;unfold qjh;simp only[qdd];rw[hA.heap,hb];simp only[h1,h2,h3,cF,cT];exact e1
 . cases h
theorem loc_appendV (elem:TypeId) (size n:Nat) (x y:V):LocP fun s=>qcs elem size n x y s:=by
 unfold qcs;refine Loc.bind (loc_firstV size n y) fun l=>?_;dsimp only;cases x<;>try exact Loc.none
 case slice b off len cap=>
  refine Loc.cond ?_ ?_
  . exact Loc.bindS (loc_stN b size l _) (LocP.ret _)
  . exact Loc.bind (loc_firstV size len _) fun a=>by dsimp only; exact LocP.nw (fun k=>V.oslice k 0 (len+n) size) fun _=>_
 case oslice b off len z=>
  refine Loc.cond ?_ Loc.none;refine Loc.bind (loc_sizeB b) fun a=>?_;dsimp only;refine Loc.cond ?_ (loc_growV _ _ _ _ _ _ _);exact Loc.bindS (loc_stN b size l _) (LocP.ret _)
 case eslice=>exact Loc.cond (LocP.ret _) Loc.none
 case nilslice=>exact Loc.cond (LocP.ret _) (LocP.nw (fun k=>V.oslice k 0 n size) fun _=>_)
theorem loc_lookupV (E:Env) (t:TypeId) (x k:V) (ok:Bool):LocP fun s=>qgm E t x k ok s:=by
 unfold qgm;refine Loc.opt fun d=>?_;cases d<;>try exact Loc.none
 rename_i kt et;refine Loc.opt fun d=>Loc.cond ?_ Loc.none
 refine Loc.bind (f:=fun s=>match x with
  | .nilmap=>some ([],s)
  | .map r=>(qky s r).bind fun p=>match p.1 with
   | .map es _=>some (es,p.2)
   | _=>none
  | _=>none) ?_ fun es=>?_
 . cases x<;>try exact Loc.none
   . rename_i r
     refine Loc.bind (loc_getO r) fun o=>?_;dsimp only;cases o<;>first|exact Loc.none|exact LocP.ret _
   . exact LocP.ret _
 . dsimp only
   refine Loc.opt fun q=>?_;cases q with
   | none=>exact Loc.opt fun z=>LocP.ret _
   | some q=>exact LocP.ret _
theorem loc_updateV (E:Env) (t:TypeId) (m k v:V):LocS fun s=>qfy E t m k v s:=by
 unfold qfy;refine Loc.opt fun d=>?_;cases d<;>try exact Loc.none
 rename_i kt et;refine Loc.opt fun d=>Loc.cond ?_ Loc.none;cases m<;>try exact Loc.none
 rename_i r;refine Loc.bind (loc_getO r) fun o=>?_;dsimp only;cases o<;>try exact Loc.none
 rename_i es clock;refine Loc.opt fun q=>?_;cases q with
 | none=>exact LocS.setO _ _
 | some q=>exact LocS.setO _ _
theorem loc_setRet {α:Type} (r:Nat) (o:O) (a:α):LocP fun s=>some (a,setO s r o):=
 Loc.of_eq (g:=fun s=>((fun s=>some (setO s r o)) s).bind fun s=>some (a,s)) (fun _=>rfl) (Loc.bindS (LocS.setO r o) (LocP.ret _))
theorem loc_entryV (E:Env) (t:TypeId) (m k:V):LocP fun s=>qk2 E t m k s:=by
 unfold qk2;refine Loc.opt fun d=>?_;cases d<;>try exact Loc.none
 rename_i kt et;refine Loc.opt fun d=>Loc.cond ?_ Loc.none;cases m<;>try exact Loc.none
 rename_i r;refine Loc.bind (loc_getO r) fun o=>?_;dsimp only;cases o<;>try exact Loc.none
 rename_i es clock;refine Loc.opt fun q=>?_;cases q with
 | none=>exact Loc.opt fun z=>loc_setRet _ _ _
 | some q=>exact Loc.opt fun z=>loc_setRet _ _ _
theorem loc_entryStoreV (m st v:V):LocS fun s=>qca m st v s:=by
 unfold qca;cases m<;>try exact Loc.none
 cases st<;>try exact Loc.none
 rename_i r kk nn;cases nn<;>try exact Loc.none
 refine Loc.bind (loc_getO r) fun o=>?_;dsimp only;cases o<;>try exact Loc.none
 exact Loc.opt fun q=>LocS.setO _ _
theorem loc_deleteV (E:Env) (t:TypeId) (m k:V):LocS fun s=>qgg E t m k s:=by
 unfold qgg;refine Loc.opt fun d=>?_;cases d<;>try exact Loc.none
 rename_i kt et;refine Loc.opt fun d=>Loc.cond ?_ Loc.none;cases m<;>try exact Loc.none
 . rename_i r
   refine Loc.bind (loc_getO r) fun o=>?_;dsimp only;cases o<;>try exact Loc.none
   rename_i es clock;refine Loc.opt fun q=>?_;cases q with
   | none=>exact LocS.setO _ _
   | some q=>exact LocS.setO _ _
 . exact LocS.ret
theorem loc_zerosAt (b off n:Nat):LocP fun s=>qb4 s b off n:=
 Loc.of_eq (fun s=>by
  unfold qb4;split
  . rename_i e esz m ro c h
    cases hc:(Nat.beq esz 1&&Nat.ble (off+n) m&&Nat.blt m big&&Nat.blt 0 n&&qfh c)
    . rw[h]; simp only[hc]; rfl
    . rw[h]; simp only[hc,cT,oB]
  . rename_i h
    cases ho:s.heap.get b with
    | none=>rfl
    | some o=>cases o<;>first|rfl|exact absurd ho (h _ _ _ _ _))
  (LocP.read (b:=b) (lo:=off) (hi:=off+n) fun o=>match o with
   | some (.cells _ esz m _ c)=>bif Nat.beq esz 1&&Nat.ble (off+n) m&&Nat.blt m big&&Nat.blt 0 n&&qfh c then some (V.str n 0)else none
   | _=>none)
theorem zerosAt_none {s t:St} {b off n:Nat} (h:qb4 s b off n=none) (hn:n=0\/t.heap.get b=s.heap.get b):qb4 t b off n=none:=by
 rcases hn with rfl|hb
 . unfold qb4
   split
   . rw[show Nat.blt 0 0=false from rfl,Bool.and_false,Bool.false_and]; rfl
   . rfl
 . unfold qb4 at h ⊢
   rw[hb];split
   . rename_i e esz m ro c hc
     rw[hc]at h;simp only at h;cases hx:(Nat.beq esz 1&&Nat.ble (off+n) m&&Nat.blt m big&&Nat.blt 0 n&&qfh c)
     . rfl
     . rw[hx]at h; cases h
   . rfl
theorem loc_bytes (b off l c n:Nat):LocP fun s=>qhr (qb4 s b off n) ((qb7 1 n (.slice b off l c) s).bind fun p=>(qdw p.1).bind fun q=>some (V.str q.1 q.2,p.2)):=by
 have hg:LocP fun s=>(qb7 1 n (.slice b off l c) s).bind fun p=>(qdw p.1).bind fun q=>some (V.str q.1 q.2,p.2):=Loc.bind (loc_firstV 1 n _) fun a=>by dsimp only; exact Loc.opt fun q=>LocP.ret _
 intro s r h;dsimp only at h;cases hz:qb4 s b off n with
 | some q=>
  rw[hz]at h;simp only[qhr,oS]at h;subst h;obtain⟨g1,l1⟩:=loc_zerosAt b off n s _ hz;refine⟨g1,fun t hA=>?_⟩;obtain⟨t',e1,A1⟩:=l1 t hA;have e1':qb4 t b off n=some (upP q t'):=e1;exact⟨t',by dsimp only; rw[e1']; rfl,A1⟩
 | none=>
  rw[hz]at h;have h':((qb7 1 n (.slice b off l c) s).bind fun p=>(qdw p.1).bind fun q=>some (V.str q.1 q.2,p.2))=some r:=h;obtain⟨g1,l1⟩:=hg s r h';refine⟨g1,fun t hA=>?_⟩;obtain⟨t',e1,A1⟩:=l1 t hA;refine⟨t',?_,A1⟩;have hno:qb4 t b off n=none:=zerosAt_none hz (.inr (by rw[hA.heap]));dsimp only;rw[hno];exact e1
theorem loc_sameV (b:Nat):LocS fun s=>sameV s b:=
 Loc.of_eq (fun s=>by
  unfold sameV;split
  . rename_i e esz m c h
    rw[h]; rfl
  . rename_i h
    cases ho:s.heap.get b with
    | none=>rfl
    | some o=>
     cases o<;>try rfl
     rename_i e esz m ro c;cases ro
     . exact absurd ho (h _ _ _ _)
     . rfl)
  (LocS.write (b:=b) (lo:=0) (hi:=big) fun o=>match o with
   | some (.cells e esz m false c)=>some (.cells e esz m false c)
   | _=>none)
theorem loc_liesV (E:Env) (u:TypeId) (b off:Nat):LocS fun s=>liesV E u b off s:=
 Loc.of_eq (g:=fun s=>(((match s.heap.get b with
  | some (.cells e esz m _ _)=>(sizeT E e).bind fun z=>bif Nat.beq z esz&&Nat.blt off (esz*m)&&Nat.blt (esz*m) big&&qkm e (off%esz) u E.lie then some ()else none
  | _=>none:Option Unit)).bind fun a=>some (a,s.note b off (off+1) false)).bind fun p=>some p.2) (fun s=>by
  unfold liesV;cases s.heap.get b with
  | none=>rfl
  | some o=>
   cases o<;>try rfl
   rename_i e esz m ro c;show(sizeT E e).bind _=(((sizeT E e).bind _).bind _).bind _;cases sizeT E e with
   | none=>rfl
   | some z=>
    simp only[oB]
    cases(Nat.beq z esz&&Nat.blt off (esz*m)&&Nat.blt (esz*m) big&&qkm e (off%esz) u E.lie)<;>rfl)
  (Loc.bind (LocP.read (b:=b) (lo:=off) (hi:=off+1) fun o=>match o with
   | some (.cells e esz m _ _)=>(sizeT E e).bind fun z=>bif Nat.beq z esz&&Nat.blt off (esz*m)&&Nat.blt (esz*m) big&&qkm e (off%esz) u E.lie then some ()else none
   | _=>none) fun _=>LocS.ret)
theorem loc_liesB (E:Env) (u:TypeId) (b off n:Nat):LocS fun s=>liesB E u b off n s:=
 Loc.of_eq (g:=fun s=>(((match s.heap.get b with
  | some (.cells e esz m false _)=>(sizeT E e).bind fun z=>bif Nat.beq e u&&Nat.beq z 1&&Nat.beq esz 1&&Nat.ble (off+n) m&&Nat.blt m big then some ()else none
  | _=>none:Option Unit)).bind fun a=>some (a,s.note b off (off+1) false)).bind fun p=>some p.2) (fun s=>by
  unfold liesB;cases s.heap.get b with
  | none=>rfl
  | some o=>
   cases o<;>try rfl
   rename_i e esz m ro c;cases ro<;>try rfl
   show(sizeT E e).bind _=(((sizeT E e).bind _).bind _).bind _;cases sizeT E e with
   | none=>rfl
   | some z=>
    simp only[oB]
    cases(Nat.beq e u&&Nat.beq z 1&&Nat.beq esz 1&&Nat.ble (off+n) m&&Nat.blt m big)<;>rfl)
  (Loc.bind (LocP.read (b:=b) (lo:=off) (hi:=off+1) fun o=>match o with
   | some (.cells e esz m false _)=>(sizeT E e).bind fun z=>bif Nat.beq e u&&Nat.beq z 1&&Nat.beq esz 1&&Nat.ble (off+n) m&&Nat.blt m big then some ()else none
   | _=>none) fun _=>LocS.ret)
theorem loc_unsafeV (E:Env) (ds dd:TypeDesc) (x:V):LocP fun s=>qid E ds dd x s:=by
 unfold qid;cases x<;>try exact Loc.none
 refine Loc.cond ?_ (Loc.cond ?_ Loc.none)
 . refine Loc.opt fun t=>Loc.opt fun z=>Loc.cond Loc.none ?_
   exact Loc.bindS (loc_liesV _ _ _ _) (LocP.ret _)
 . refine Loc.opt fun t=>Loc.opt fun z=>?_
   exact Loc.bindS (loc_liesV _ _ _ _) (LocP.ret _)
theorem loc_convertV (E:Env) (src dst:TypeId) (x:V):LocP fun s=>qc2 E src dst x s:=by
 unfold qc2;refine Loc.opt fun ds=>Loc.opt fun dd=>Loc.cond (loc_unsafeV _ _ _ _) ?_
 have bytes:∀(x:V),LocP fun s=>(match ds with
  | .slice e=>(und E e).bind fun
   | .int .u8=>(lenV x).bind fun n=>match x with
    | .str _ _=>none
    | .slice b off l c=>qhr (qb4 s b off n) ((qb7 1 n (.slice b off l c) s).bind fun p=>(qdw p.1).bind fun q=>some (.str q.1 q.2,p.2))
    | x=>(qb7 1 n x s).bind fun p=>(qdw p.1).bind fun q=>some (V.str q.1 q.2,p.2)
   | _=>none
  | _=>none):=by
  intro x;cases ds<;>try exact Loc.none
  rename_i e;refine Loc.opt fun d=>?_;cases d<;>try exact Loc.none
  rename_i k;cases k<;>try exact Loc.none
  refine Loc.opt fun n=>?_
  cases x<;>first
   | exact Loc.none
   | exact loc_bytes _ _ _ _ _
   | exact Loc.bind (loc_firstV 1 n _) fun a=>by dsimp only; exact Loc.opt fun q=>LocP.ret _
 cases dd<;>try (cases x<;>exact Loc.none)
 . cases x<;>first|exact Loc.none|exact LocP.ret _
 . cases x<;>first|exact LocP.ret _|exact bytes _
 . cases x<;>try exact Loc.none
   . refine Loc.opt fun d=>?_
     cases d<;>try exact Loc.none
     rename_i k;cases k<;>try exact Loc.none
     exact LocP.nw (fun k=>V.oslice k 0 _ 1) fun _=>_
   . refine Loc.cond ?_ Loc.none
     refine Loc.opt fun d=>?_;cases d<;>try exact Loc.none
     rename_i k;cases k<;>try exact Loc.none
     exact Loc.bindS (loc_sameV _) (LocP.ret _)
theorem loc_lenAny (d:TypeDesc) (E:Env) (x:V):LocN fun s=>lenAny d E x s:=by
 cases d<;>try exact Loc.none
 case array=>exact LocN.ret _
 case pointer e=>
  refine Loc.opt fun d=>?_;cases d<;>first|exact Loc.none|exact LocN.ret _
 case string=>cases x<;>first|exact Loc.none|exact LocN.ret _
 case slice=>cases x<;>first|exact Loc.none|exact LocN.ret _
 case map=>
  cases x<;>try exact Loc.none
  case nilmap=>exact LocN.ret _
  case map r=>
   refine Loc.bind (loc_getO r) fun o=>?_;dsimp only;cases o<;>first|exact Loc.none|exact LocN.ret _
theorem loc_copyInto (size:Nat) (x:V) (n:Nat) (l:List (Tr V)):LocN fun s=>qin size x n l s:=by
 cases x<;>try exact Loc.none
 case slice=>exact Loc.bindS (loc_stN _ size l _) (LocN.ret _)
 case oslice=>exact Loc.bindS (loc_stN _ size l _) (LocN.ret _)
 case eslice=>exact LocN.ret _
 case nilslice=>exact LocN.ret _
theorem loc_extV (k:Nat) (args:List V):LocN fun s=>extV k args s:=by
 unfold extV;split
 . split
   . refine Loc.cond ?_ Loc.none
     split<;>exact LocN.ret _
   . exact Loc.none
 . split
   . rename_i t r
     refine Loc.bind (loc_getO r) fun o=>?_;dsimp only;cases o<;>first|exact Loc.none|exact LocN.nw (fun k=>V.iface t (V.map k)) fun _=>_
   . exact Loc.none
 . split
   . exact Loc.cond (LocN.ret _) Loc.none
   . exact Loc.none
 . split
   . exact LocN.ret _
   . exact Loc.none
 . refine Loc.cond ?_ Loc.none
   split
   . exact Loc.cond (LocN.nw (fun k=>V.oslice k 0 _ 1) fun _=>_) Loc.none
   . exact Loc.none
theorem LocN.enter (f:FuncId) (args:List V):LocN fun s=>some (.enter f args s):=fun s r h=>by
 simp only[oS]at h;subst h;exact⟨rfl,fun t hA=>⟨t,rfl,hA,rfl⟩⟩
theorem LocN.round (f:Nat) (args:List V):LocN fun s=>some (.round f args s):=fun s r h=>by
 simp only[oS]at h;subst h;exact⟨rfl,fun t hA=>⟨t,rfl,hA,rfl⟩⟩
theorem LocN.defer (d:AD):LocN fun s=>some (.defer d s):=fun s r h=>by
 simp only[oS]at h;subst h;exact⟨rfl,fun t hA=>⟨t,rfl,hA,rfl⟩⟩
theorem LocN.recover:LocN fun s=>some (.recover s):=fun s r h=>by
 simp only[oS]at h;subst h;exact⟨rfl,fun t hA=>⟨t,rfl,hA,rfl⟩⟩
theorem LocN.pan (v:V):LocN fun s=>some (.pan v s):=fun s r h=>by
 simp only[oS]at h;subst h;exact⟨rfl,fun t hA=>⟨t,rfl,hA,rfl⟩⟩
theorem loc_callV (E:Env) (f:V) (args:List V):LocN fun s=>qge E f args s:=by
 unfold qge;cases f<;>try exact Loc.none
 case yield l=>exact LocN.round _ _
 rename_i fn x y;cases fn<;>try exact Loc.none
 rename_i g;dsimp only;cases E.ext.get g with
 | some k=>exact loc_extV _ _
 | none=>exact Loc.cond (LocN.enter _ _) Loc.none
theorem loc_extendAt (E:Env) (e:TypeId) (size bytes:Nat) (x y:V):LocP fun s=>qec E e size bytes x y s:=by
 unfold qec;cases x<;>try exact Loc.none
 exact Loc.opt fun n=>Loc.cond (Loc.opt fun z=>Loc.cond (LocP.nw (fun k=>V.oslice k 0 n size) fun _=>_) Loc.none) Loc.none
theorem loc_builtinF (E:Env) (b:Builtin) (ts:List TypeId) (args:List Operand) (a:Ac):LocN fun s=>(qa8 E b ts args).run a s:=by
 cases b<;>try exact Loc.none
 case append=>
  unfold qa8;dsimp only;split
  . refine Loc.opt fun q=>Loc.opt fun d2=>Loc.cond ?_ (Loc.cond ?_ Loc.none)
    . refine Loc.opt fun vx=>Loc.opt fun vy=>Loc.opt fun n=>Loc.opt fun m=>Loc.cond ?_ Loc.none
      exact LocN.vS (loc_appendV _ _ _ _ _)
    . exact Loc.opt fun vx=>Loc.opt fun vy=>LocN.vS (loc_extendAt _ _ _ _ _ _)
  . exact Loc.none
 case cap=>
  unfold qa8;dsimp only;split
  . refine Loc.opt fun d=>?_
    cases d<;>try exact Loc.none
    refine Loc.opt fun v=>?_;cases v<;>first|exact Loc.none|exact LocN.ret _
  . exact Loc.none
 case copy=>
  unfold qa8;dsimp only;split
  . refine Loc.opt fun q=>Loc.opt fun vx=>Loc.opt fun vy=>Loc.opt fun m=>Loc.opt fun k=>?_
    exact Loc.bind (loc_firstV _ _ _) fun l=>by dsimp only; exact loc_copyInto _ _ _ _
  . exact Loc.none
 case delete=>
  unfold qa8;dsimp only;split
  . exact Loc.opt fun m=>Loc.opt fun k=>LocN.uS (loc_deleteV _ _ _ _)
  . exact Loc.none
 case len=>
  unfold qa8;dsimp only;split
  . exact Loc.opt fun d=>Loc.opt fun v=>loc_lenAny _ _ _
  . exact Loc.none
 case unsafeSliceData=>
  unfold qa8;dsimp only;split
  . refine Loc.opt fun v=>?_
    cases v<;>first|exact Loc.none|exact LocN.ret _|exact Loc.cond (LocN.ret _) Loc.none
  . exact Loc.none
 case unsafeString=>
  unfold qa8;dsimp only;split
  . refine Loc.opt fun d=>Loc.opt fun u=>Loc.opt fun p=>Loc.opt fun vn=>Loc.opt fun n=>?_
    cases p<;>first|exact Loc.none|exact Loc.cond (LocN.ret _) Loc.none|skip
    refine Loc.cond (LocN.ret _) (Loc.cond ?_ Loc.none);refine Loc.bindS (loc_liesB _ _ _ _ _) ?_;refine Loc.bind (loc_ldN _ 1 _ _) fun l=>?_;dsimp only;refine Loc.opt fun k=>?_;exact Loc.of_eq (g:=fun s=>((fun s=>some (setO s _ .dead)) s).bind fun s=>some (Nx.val (.str k.1 k.2) s)) (fun _=>rfl) (Loc.bindS (LocS.setO _ _) (LocN.ret _))
  . exact Loc.none
 case max=>
  unfold qa8;dsimp only;split
  . exact Loc.opt fun v=>Loc.opt fun vs=>LocN.pS _
  . exact Loc.none
 case min=>
  unfold qa8;dsimp only;split
  . exact Loc.opt fun v=>Loc.opt fun vs=>LocN.pS _
  . exact Loc.none
 case panic=>
  unfold qa8;dsimp only;split
  . refine Loc.opt fun v=>?_
    cases v<;>first|exact Loc.none|exact LocN.pan _
  . exact Loc.none
 case recover=>exact LocN.recover
theorem loc_opF (E:Env) (op:Op) (a:Ac):LocN fun s=>(opF E op).run a s:=by
 cases op<;>try exact Loc.none
 case move=>exact LocN.pS _
 case assign=>exact LocN.pS _
 case pick=>
  refine Loc.opt fun v=>?_;cases v<;>try exact Loc.none
  exact Loc.cond (LocN.pS _) (LocN.pS _)
 case alloc t=>exact Loc.opt fun z=>LocN.nw (fun k=>V.ptr k 0) fun _=>_
 case box t x=>exact Loc.opt fun v=>Loc.cond Loc.none (LocN.nw (fun k=>V.ptr k 0) fun _=>_)
 case build=>exact Loc.opt fun v=>LocN.pS _
 case buildSlice t len parts=>
  refine Loc.opt fun q=>Loc.cond ?_ Loc.none;refine Loc.opt fun z=>Loc.opt fun ps=>Loc.cond ?_ Loc.none;exact Loc.opt fun l=>LocN.nw (fun k=>V.slice k 0 len len) fun _=>_
 case load=>
  refine Loc.opt fun v=>?_;cases v<;>try exact Loc.none
  . exact LocN.vS (loc_loadV _ _ _ _)
  . exact Loc.cond (LocN.ret _) Loc.none
 case store=>
  refine Loc.opt fun v=>?_;cases v<;>try exact Loc.none
  exact Loc.opt fun v=>LocN.uS (loc_storeV _ _ _ _ _)
 case nilCheck=>exact Loc.opt fun v=>Loc.cond (LocN.ret _) Loc.none
 case binOp=>exact Loc.opt fun v=>Loc.opt fun u=>LocN.pS _
 case unOp=>exact Loc.opt fun v=>LocN.pS _
 case convert=>exact Loc.opt fun v=>LocN.vS (loc_convertV _ _ _ _)
 case makeInterface=>exact Loc.opt fun d=>Loc.cond (Loc.opt fun v=>LocN.ret _) Loc.none
 case makeFunc=>exact Loc.opt fun d=>Loc.opt fun v=>LocN.ret _
 case makeMap t r=>
  cases r with
  | none=>exact LocN.nw (fun k=>V.map k) fun _=>_
  | some x=>exact Loc.opt fun d=>Loc.opt fun v=>Loc.cond (LocN.nw (fun k=>V.map k) fun _=>_) Loc.none
 case makeSlice=>
  refine Loc.opt fun q=>Loc.opt fun vl=>Loc.opt fun n=>Loc.opt fun vc=>Loc.opt fun m=>Loc.cond ?_ Loc.none;exact Loc.opt fun z=>Loc.cond (LocN.nw (fun k=>V.slice k 0 n m) fun _=>_) Loc.none
 case slice=>exact Loc.opt fun v=>Loc.opt fun l=>Loc.opt fun h=>Loc.opt fun m=>LocN.vS (loc_sliceV _ _ _ _ _ _)
 case fieldAddr=>
  refine Loc.opt fun p=>Loc.cond Loc.none (Loc.opt fun v=>?_);cases v<;>try exact Loc.none
  . exact LocN.ret _
  . rename_i u
    cases u<;>first|exact Loc.none|exact Loc.opt fun _=>LocN.ret _
 case field=>
  refine Loc.opt fun p=>Loc.opt fun v=>?_;cases v<;>first|exact Loc.none|exact LocN.pS _
 case indexAddr=>
  refine Loc.opt fun d=>Loc.opt fun vi=>Loc.opt fun n=>Loc.opt fun v=>?_;cases d<;>try exact Loc.none
  . refine Loc.opt fun z=>?_
    cases v<;>first|exact Loc.none|exact Loc.cond (LocN.ret _) Loc.none|exact Loc.cond (Loc.opt fun _=>LocN.ret _) Loc.none
  . refine Loc.opt fun z=>?_
    cases v<;>try exact Loc.none
    . exact Loc.cond (LocN.ret _) Loc.none
    . rename_i u
      cases u<;>first|exact Loc.none|exact Loc.cond (Loc.opt fun _=>LocN.ret _) Loc.none
 case index=>
  refine Loc.opt fun d=>Loc.opt fun vi=>Loc.opt fun n=>Loc.opt fun v=>?_;cases d<;>try exact Loc.none
  . cases v<;>first|exact Loc.none|exact Loc.cond (LocN.ret _) Loc.none
  . cases v<;>first|exact Loc.none|exact Loc.opt fun z=>Loc.cond (LocN.pS _) Loc.none
 case lookup=>exact Loc.opt fun m=>Loc.opt fun k=>LocN.vS (loc_lookupV _ _ _ _ _)
 case mapUpdate=>exact Loc.opt fun m=>Loc.opt fun k=>Loc.opt fun v=>LocN.uS (loc_updateV _ _ _ _ _)
 case insert=>exact Loc.opt fun m=>Loc.opt fun k=>Loc.opt fun v=>LocN.uS (loc_updateV _ _ _ _ _)
 case mapEntry=>exact Loc.opt fun m=>Loc.opt fun k=>LocN.vS (loc_entryV _ _ _ _)
 case entryStore=>exact Loc.opt fun m=>Loc.opt fun k=>Loc.opt fun v=>LocN.uS (loc_entryStoreV _ _ _)
 case typeAssert x xt asserted ok=>
  refine Loc.opt fun d=>Loc.cond (Loc.opt fun v=>?_) Loc.none;have no:LocN fun s=>qde E asserted ok s:=Loc.cond (Loc.opt fun z=>LocN.ret _) Loc.none;cases v<;>try exact Loc.none
  . exact Loc.cond (LocN.ret _) no
  . exact no
 case range=>
  refine Loc.opt fun d=>?_;cases d<;>try exact Loc.none
  refine Loc.opt fun v=>?_;cases v<;>first|exact Loc.none|exact LocN.nw (fun k=>V.ptr k 0) fun _=>_
 case next=>
  refine Loc.cond (Loc.opt fun v=>?_) Loc.none;cases v<;>try exact Loc.none
  rename_i b off;refine Loc.cond ?_ Loc.none;refine Loc.bind (loc_getO b) fun o=>?_;dsimp only;cases o<;>try exact Loc.none
  refine Loc.cond ?_ (LocN.ret _);exact Loc.of_eq (fun _=>rfl) (LocN.vS (loc_setRet b _ _))
 case extract=>
  refine Loc.opt fun v=>?_;cases v<;>first|exact Loc.none|exact LocN.pS _
 case panic=>
  refine Loc.opt fun v=>?_;cases v<;>first|exact Loc.none|exact LocN.pan _
 case call c=>
  unfold opF;dsimp only;cases c.callee with
  | builtin b=>exact loc_builtinF _ _ _ _ _
  | value f=>exact Loc.opt fun fv=>Loc.opt fun vs=>loc_callV _ _ _
  | invoke x n=>exact Loc.none
 case defer c=>
  unfold opF;dsimp only;cases c.callee with
  | builtin b=>exact Loc.none
  | value f=>
   refine Loc.opt fun fv=>?_;cases fv<;>first|exact Loc.none|exact Loc.opt fun vs=>LocN.defer _
  | invoke x n=>exact Loc.none
abbrev LocX (f:St->Option (X×Ac×St)):Prop:=Loc (fun r=>r.2.2) upX f
abbrev LocM (f:St->Option (X×Ac×Md×St)):Prop:=Loc (fun r=>r.2.2.2) upM f
section
variable {β γ:Type} {st:β->St} {up:β->St->β} {st1:γ->St} {up1:γ->St->γ}
theorem Loc.bindN {f:St->Option Nx} {g:Nx->Option β} (hf:LocN f) (hg:∀r:Nx,Loc st up fun s=>g (r.up s)):Loc st up fun s=>(f s).bind g:=Loc.bindG nx_up hf hg
theorem Loc.bindX {f:St->Option (X×Ac×St)} {g:X×Ac×St->Option β} (hf:LocX f) (hg:∀x a,Loc st up fun s=>g (x,a,s)):Loc st up fun s=>(f s).bind g:=
 Loc.bindG (up1:=upX) (fun _=>rfl) hf fun r=>hg r.1 r.2.1
theorem Loc.bindM {f:St->Option (X×Ac×Md×St)} {g:X×Ac×Md×St->Option β} (hf:LocM f) (hg:∀x a m,Loc st up fun s=>g (x,a,m,s)):Loc st up fun s=>(f s).bind g:=
 Loc.bindG (up1:=upM) (fun _=>rfl) hf fun r=>hg r.1 r.2.1 r.2.2.1
end
theorem LocX.ret (x:X) (a:Ac):LocX fun s=>some (x,a,s):=fun s r h=>by
 simp only[oS]at h;subst h;exact⟨rfl,fun t hA=>⟨t,rfl,hA,rfl⟩⟩
theorem LocM.ret (x:X) (a:Ac) (m:Md):LocM fun s=>some (x,a,m,s):=fun s r h=>by
 simp only[oS]at h;subst h;exact⟨rfl,fun t hA=>⟨t,rfl,hA,rfl⟩⟩
def EVLoc (self:EV):Prop:=(∀f args,LocP fun s=>self.f f args s)/\∀l args,LocP fun s=>self.r l args s
def CFLoc (c:CF):Prop:=∀self,EVLoc self->∀a,LocX fun s=>c.run self a s
theorem loc_afterOp {self:EV} (hs:EVLoc self) (p:PF) (a:Ac) (nx:Nx):LocX fun s=>qbe p self a (nx.up s):=by
 cases nx with
 | val v s0=>
  simp only[Nx.up,qbe,qbv,qaw];exact Loc.opt fun a'=>LocX.ret _ _
 | enter f args s0=>
  simp only[Nx.up,qbe,qaw];refine Loc.bind (hs.1 f args) fun e=>?_;cases e with
  | ret v=>
   simp only[qbm,qbv,qaw];exact Loc.opt fun a'=>LocX.ret _ _
  | pan v=>exact LocX.ret _ _
 | round f args s0=>
  simp only[Nx.up,qbe,qaw];refine Loc.bind (hs.2 f args) fun e=>?_;cases e with
  | ret v=>
   simp only[qbm,qbv,qaw];exact Loc.opt fun a'=>LocX.ret _ _
  | pan v=>exact LocX.ret _ _
 | defer d s0=>
  simp only[Nx.up,qbe];cases a.round with
  | none=>exact Loc.opt fun a'=>LocX.ret _ _
  | some l=>exact Loc.none
 | recover s0=>exact Loc.none
 | pan v s0=>exact LocX.ret _ _
theorem loc_op1 (E:Env) (ops:Array Oper) (o:Oper):CFLoc (op1 E ops o):=fun self hs a=>by
 refine Loc.opt fun b=>Loc.cond ?_ (Loc.opt fun a'=>LocX.ret _ _);exact Loc.bindN (loc_opF E o.op a) fun nx=>loc_afterOp hs _ _ nx
theorem loc_skip:CFLoc ⟨skipC⟩:=fun _ _ _=>LocX.ret _ _
theorem loc_seqC {x y:CF} (hx:CFLoc x) (hy:CFLoc y):CFLoc ⟨seqC x y⟩:=fun self hs a=>by
 refine Loc.bindX (hx self hs a) fun e a'=>?_;cases e with
 | norm=>exact hy self hs a'
 | _=>exact LocX.ret _ _
theorem loc_opsL (E:Env) (ops:Array Oper):∀l,CFLoc (opsL E ops l)
 | []=>loc_skip
 | o::l=>loc_seqC (loc_op1 E ops o) (loc_opsL E ops l)
def DFLoc (d:DF):Prop:=∀self,EVLoc self->∀a s r,d.run self a s=some r->∀t,Same s t->∃t',d.run self a t=some (r.1,r.2.1,t',r.2.2.2)/\Same r.2.2.1 t'
theorem loc_drawNil:DFLoc ⟨drawNil⟩:=fun _ _ a s r h t hA=>by
 have h':some (X.norm,a,s,[])=some r:=h;simp only[oS]at h';subst h';exact⟨t,rfl,hA⟩
theorem loc_drawC {x:CF} {k:DF} (hk:DFLoc k):DFLoc ⟨qkh x k⟩:=fun self hs a s r h t hA=>by
 have h':qkh x k self a s=some r:=h;refine⟨r.2.2.1,?_,Same.refl _⟩;show qkh x k self a t=_;unfold qkh at h' ⊢;rw[show({t with on:=true,log:=[]}:St)={s with on:=true,log:=[]} by rw[hA.heap,hA.next]];exact h'
theorem loc_opsD (E:Env) (ops:Array Oper):∀l,DFLoc (opsD E ops l)
 | []=>loc_drawNil
 | _::l=>loc_drawC (loc_opsD E ops l)
theorem relog_same' {s t s1 t1:St} (h:Same s1 t1) (ls:List (List LE)):Same (qbh s s1 ls) (qbh t t1 ls):=by
 unfold qbh;cases s.on<;>cases t.on<;>exact⟨h.next,h.heap⟩
theorem relog_on' (s s1:St) (ls:List (List LE)):(qbh s s1 ls).on=s.on:=by
 unfold qbh;cases h:s.on<;>rfl
theorem loc_drawnC (pl:Plan) {f:DF} (hf:DFLoc f):CFLoc ⟨qlw pl f⟩:=fun self hs a=>by
 refine Loc.cond ?_ Loc.none;intro s r h;simp only[oI]at h;obtain⟨q,hq,h⟩:=h;have hq':f.run self a s=some q:=hq
 have key:∃e a',r=(e,a',qbh s q.2.2.1 q.2.2.2)/\∀t t',qc3 pl a t (q.1,q.2.1,t',q.2.2.2)=some (e,a',qbh t t' q.2.2.2):=by
  obtain⟨e,a1,s1,ls⟩:=q;cases e with
  | norm=>
   simp only[qc3]at h ⊢;cases hc:(qag ls pl.prs&&Nat.beq a1.defers.length a.defers.length)with
   | false=>rw[hc]at h; cases h
   | true=>
    rw[hc]at h;simp only[cT,oS]at h;exact⟨.norm,_,h.symm,fun _ _=>rfl⟩
  | pan v=>
   simp only[qc3]at h ⊢;cases hc:(qag ls pl.prs&&Nat.beq a1.defers.length a.defers.length)with
   | false=>rw[hc]at h; cases h
   | true=>
    rw[hc]at h;simp only[cT,oI,oS]at h;obtain⟨a2,hp,h⟩:=h;exact⟨.pan v,a2,h.symm,fun _ _=>by rw[hp]; rfl⟩
  | exit id=>simp[qc3]at h
  | ret=>simp[qc3]at h
 obtain⟨e,a',rfl,hend⟩:=key;refine⟨relog_on' ..,fun t hA=>?_⟩;obtain⟨t1,e1,A1⟩:=hf self hs a s q hq' t hA;refine⟨qbh t t1 q.2.2.2,?_,relog_same' A1 _,relog_on' ..⟩;have e1':f.run self a t=some (q.1,q.2.1,t1,q.2.2.2):=e1;simp only[e1',oB];exact hend t t1
theorem loc_setX (x:X) (a:Ac) (l:Nat) (o:O):LocX fun s=>some (x,a,setO s l o):=Loc.of_eq (g:=fun s=>((fun s=>some (setO s l o)) s).bind fun s=>some (x,a,s)) (fun _=>rfl) (Loc.bindS (LocS.setO l o) (LocX.ret _ _))
theorem loc_endLoop (l:Nat) (a:Ac):LocX fun s=>endLoop l a s:=by
 unfold endLoop;refine Loc.bind (loc_getO l) fun o=>?_;dsimp only;cases o<;>try exact Loc.none
 rename_i st pend tmps n params assign body;refine Loc.cond Loc.none ?_;cases pend with
 | none=>exact loc_setX _ _ _ _
 | some c=>cases c<;>first|exact Loc.none|exact loc_setX _ _ _ _
theorem loc_rangeCall {self:EV} (hs:EVLoc self) (l:Nat) (a:Ac) (nx:Nx):LocX fun s=>rangeCall self l a (nx.up s):=by
 cases nx<;>try exact Loc.none
 case enter f args s0=>
  refine Loc.bind (hs.1 f args) fun e=>?_;cases e with
  | ret v=>exact loc_endLoop l a
  | pan v=>exact LocX.ret _ _
theorem loc_rangeC (E:Env) (f:Operand) (params:List Nat) (assign body:Code):CFLoc ⟨qfc E f params assign body⟩:=fun self hs a=>by
 show LocX fun s=>qfc E f params assign body self a s;obtain⟨tm,nn,df,rd⟩:=a;unfold qfc;cases rd with
 | none=>
  dsimp only;refine Loc.opt fun fv=>?_
  have h2:LocP fun s=>some (s.next,nw (nw s .defb) (.loop 0 none (qer params assign body tm) nn params assign body)):=
   Loc.of_eq (g:=fun s=>((fun s=>some (s.next,nw s .defb)) s).bind fun p=>((fun s=>some (s.next,nw s (.loop 0 none (qer params assign body tm) nn params assign body))) p.2).bind fun q=>some (p.1,q.2)) (fun _=>rfl)
    (Loc.bind (LocP.nw (fun k=>k) fun _=>.defb) fun k=>by
     dsimp only
     exact Loc.bind (LocP.nw (fun k=>k) fun _=>.loop 0 none (qer params assign body tm) nn params assign body) fun _=>by dsimp only; exact LocP.ret k)
  refine Loc.of_eq (g:=fun s=>((fun s=>some (s.next,nw (nw s .defb) (.loop 0 none (qer params assign body tm) nn params assign body))) s).bind fun p=>(qge E fv [.yield (p.1+1)] p.2).bind
   (rangeCall self (p.1+1) {tmps:=tm,n:=nn,defers:={mark:=some p.1,f:=.func 0,captured:=[],args:=[]}::df,round:=none})) (fun _=>rfl) ?_
  exact Loc.bind h2 fun k=>by dsimp only; exact Loc.bindN (loc_callV E fv _) fun nx=>loc_rangeCall hs _ _ nx
 | some l0=>
  dsimp only;refine Loc.bind (loc_getO l0) fun o=>?_;dsimp only;cases o<;>try exact Loc.none
  refine Loc.opt fun fv=>?_;refine Loc.of_eq (g:=fun s=>((fun s=>some (s.next,nw s (.loop 0 none (qer params assign body tm) nn params assign body))) s).bind fun p=>(qge E fv [.yield p.1] p.2).bind (rangeCall self p.1 {tmps:=tm,n:=nn,defers:=df,round:=some l0})) (fun _=>rfl) ?_;exact Loc.bind (LocP.nw (fun k=>k) fun _=>.loop 0 none (qer params assign body tm) nn params assign body) fun k=>by dsimp only; exact Loc.bindN (loc_callV E fv _) fun nx=>loc_rangeCall hs _ _ nx
theorem loc_loopC {x:CF} (hx:CFLoc x):∀n,CFLoc ⟨qjk x n⟩
 | 0=>fun _ _ _=>Loc.none
 | n+1=>fun self hs a=>by
  refine Loc.bindX (hx self hs a) fun e a'=>?_;cases e with
  | norm=>exact loc_loopC hx n self hs a'
  | _=>exact LocX.ret _ _
theorem loc_comp (E:Env):∀c,CFLoc (qd7 E c)
 | .skip=>loc_skip
 | .region _ ops false=>loc_opsL E ops _
 | .region _ ops true=>loc_drawnC _ (loc_opsD E ops _)
 | .seq x y=>loc_seqC (loc_comp E x) (loc_comp E y)
 | .cond c x y=>fun self hs a=>by
  refine Loc.opt fun v=>?_;cases v<;>try exact Loc.none
  exact Loc.cond (loc_comp E x self hs a) (loc_comp E y self hs a)
 | .block id x=>fun self hs a=>by
  refine Loc.bindX (loc_comp E x self hs a) fun e a'=>?_;cases e<;>exact LocX.ret _ _
 | .loop x=>loc_loopC (loc_comp E x) qa3
 | .rangeFunc f ps x y=>loc_rangeC E f ps.toList x y
 | .exit id=>fun _ _ _=>LocX.ret _ _
 | .scope x=>loc_comp E x
 | .label _=>loc_skip
 | .goto _=>fun _ _ _=>Loc.none
 | .ret=>fun _ _ _=>LocX.ret _ _
 | .refuse _=>fun _ _ _=>Loc.none
theorem loc_opsS (E:Env) {self:EV} (hs:EVLoc self) (ops:Array Oper):∀(l:List Oper) (a:Ac) (m:Md),LocM fun s=>opsS E self ops l a m s
 | [],a,m=>LocM.ret _ _ _
 | o::l,a,m=>by
  unfold opsS;refine Loc.cond (Loc.opt fun a'=>loc_opsS E hs ops l _ _) ?_;refine Loc.bindX (loc_op1 E ops o {self with r:=fun _ _ _=>none} ⟨hs.1,fun _ _=>Loc.none⟩ a) fun e a'=>?_;cases e with
  | norm=>exact loc_opsS E hs ops l a' m
  | _=>exact LocM.ret _ _ _
theorem loc_evS (E:Env) {self:EV} (hs:EVLoc self):∀(d:Nat) (c:Code) (a:Ac) (m:Md),LocM fun s=>evS E self d c a m s
 | 0,_,_,_=>Loc.none
 | d+1,c,a,m=>by
  have other:LocM fun s=>((qd7 E c).run self a s).bind fun(x,a,s)=>some (x,a,m,s):=
   Loc.bindX (loc_comp E c self hs a) fun e a'=>LocM.ret _ _ _
  cases c<;>try exact other
  case seq x y=>
   refine Loc.bindM (loc_evS E hs d x a m) fun e a' m'=>?_;cases e with
   | norm=>exact loc_evS E hs d y a' m'
   | _=>exact LocM.ret _ _ _
  case cond c x y=>
   refine Loc.opt fun v=>?_;cases v<;>try exact Loc.none
   exact loc_evS E hs d _ a m
  case region id ops draw=>
   cases draw with
   | false=>exact loc_opsS E hs ops _ a m
   | true=>exact other
theorem loc_resultsV (E:Env) (a:Ac):∀l,LocP fun s=>qay E a l s
 | []=>LocP.ret _
 | .tmp t::l=>by
  unfold qay;exact Loc.opt fun v=>Loc.bind (loc_resultsV E a l) fun vs=>by dsimp only; exact LocP.ret _
 | .cell t ty::l=>by
  unfold qay;refine Loc.opt fun v=>?_;cases v<;>try exact Loc.none
  refine Loc.bind (loc_loadV E ty _ _) fun u=>?_;dsimp only;exact Loc.bind (loc_resultsV E a l) fun vs=>by dsimp only; exact LocP.ret _
theorem loc_leaves (E:Env) {self:EV} (hs:EVLoc self) (fn:Func) (a:Ac):∀(ds:List AD) (m:Md),LocP fun s=>qbk E self fn a ds m s
 | [],m=>by
  cases m with
  | ret=>exact Loc.bind (loc_resultsV E a _) fun vs=>by dsimp only; exact LocP.ret _
  | pan v=>exact LocP.ret _
  | got v=>exact Loc.none
 | d::ds,m=>by
  unfold qbk;cases d.mark with
  | some r=>
   dsimp only;refine Loc.bind (loc_getO r) fun o=>?_;dsimp only;cases o<;>try exact Loc.none
   exact Loc.of_eq (g:=fun s=>((fun s=>some (setO s r .dead)) s).bind fun s=>qbk E self fn a ds m s) (fun _=>rfl) (Loc.bindS (LocS.setO r .dead) (loc_leaves E hs fn a ds m))
  | none=>
  dsimp only;cases d.f<;>try exact Loc.none
  refine Loc.opt fun g=>Loc.opt fun c=>Loc.cond ?_ Loc.none;refine Loc.bindM (loc_evS E hs 50 c _ m) fun e a' m'=>?_;dsimp only;refine Loc.cond ?_ Loc.none;exact Loc.bind (loc_resultsV E a' _) fun vs=>by dsimp only; exact loc_leaves E hs fn a ds _
def KnLoc (K:FuncId->Option KF):Prop:=∀f g,K f=some g->∀args,LocP fun s=>g.run args s
theorem loc_stepF (E:Env) {K:FuncId->Option KF} (hK:KnLoc K) {self:EV} (hs:EVLoc self) (f:FuncId) (args:List V):LocP fun s=>qn7 E K self f args s:=by
 unfold qn7 fnOf;cases hg:K f with
 | some g=>exact hK f g hg args
 | none=>
 cases hf:E.fns.get f with
 | none=>exact Loc.none
 | some fn=>
 cases hb:fn.body with
 | none=>simp only[oB,hb]; exact Loc.none
 | some c=>
 simp only[oB,hb];refine Loc.cond ?_ Loc.none;refine Loc.bindX (loc_comp E c self hs _) fun e a'=>?_;cases e with
 | norm=>exact loc_leaves E hs fn a' a'.defers .ret
 | ret=>exact loc_leaves E hs fn a' a'.defers .ret
 | pan v=>exact loc_leaves E hs fn a' a'.defers (.pan v)
 | exit id=>exact Loc.none
theorem loc_endRound (l st:Nat) (pend:Option Code) (back:Bool):LocP fun s=>endRound l st pend back s:=by
 unfold endRound;refine Loc.bind (loc_getO l) fun o=>?_;dsimp only;cases o<;>try exact Loc.none
 exact loc_setRet _ _ _
theorem loc_roundEnd (l:Nat) (x:X) (a:Ac):LocP fun s=>qej l (x,a,s):=by
 unfold qej;dsimp only;refine Loc.cond ?_ Loc.none;cases x with
 | norm=>exact loc_endRound _ _ _ _
 | ret=>exact loc_endRound _ _ _ _
 | exit id=>exact loc_endRound _ _ _ _
 | pan v=>exact Loc.none
theorem loc_roundBody (E:Env) {self:EV} (hs:EVLoc self) (l:Nat) (body:Code) (x:X) (a:Ac):LocP fun s=>qfd E self l body (x,a,s):=by
 unfold qfd;cases x<;>try exact Loc.none
 dsimp only;refine Loc.bind (loc_getO l) fun o=>?_;dsimp only;cases o<;>try exact Loc.none
 rename_i st pend tmps n params assign body';refine Loc.cond ?_ Loc.none;refine Loc.of_eq (g:=fun s=>((fun s=>some (setO s l (.loop 2 pend tmps n params assign body'))) s).bind fun s=>((qd7 E body).run self a s).bind (qej l)) (fun _=>rfl) ?_;exact Loc.bindS (LocS.setO _ _) (Loc.bindX (loc_comp E body self hs a) fun e a'=>loc_roundEnd l e a')
theorem loc_stepR (E:Env) {self:EV} (hs:EVLoc self) (l:Nat) (args:List V):LocP fun s=>stepR E self l args s:=by
 unfold stepR;refine Loc.bind (loc_getO l) fun o=>?_;dsimp only;cases o<;>try exact Loc.none
 refine Loc.opt fun t=>?_;exact Loc.bindX (loc_comp E _ self hs _) fun e a'=>loc_roundBody E hs l _ e a'
theorem loc_ev (E:Env) {K:FuncId->Option KF} (hK:KnLoc K):∀n,EVLoc (ev E K n)
 | 0=>⟨fun _ _=>Loc.none,fun _ _=>Loc.none⟩
 | n+1=>⟨fun f args=>loc_stepF E hK (loc_ev E hK n) f args,fun l args=>loc_stepR E (loc_ev E hK n) l args⟩
theorem ev_lg {E:Env} {K:FuncId->Option KF} (hK:KnLoc K) {n:Nat} {f:FuncId} {args:List V} {s t:St} {e:En} (h:(ev E K n).f f args s=some (e,t)) (l:List LE):∃l',(ev E K n).f f args (s.lg l)=some (e,t.lg l'):=by
 obtain⟨_,h2⟩:=(loc_ev E hK n).1 f args s (e,t) h;obtain⟨t',h3,h4,h5⟩:=h2 (s.lg l) ⟨rfl,rfl⟩;refine⟨t'.log,h3.trans ?_⟩;obtain⟨hp,nx,on,lg⟩:=t';obtain⟨k1,k2⟩:=h4;simp only at k1 k2 h5;have h5':on=true:=h5;subst h5'; subst k1; subst k2;rfl
theorem knLoc_nil:KnLoc (fun _=>Option.none):=fun _ _ h=>by cases h
theorem KnLoc.add {K:FuncId->Option KF} (h:KnLoc K) (f:FuncId) {g:KF} (hg:∀args,LocP fun s=>g.run args s):KnLoc (knAdd K f g):=fun x y hx=>by
 unfold knAdd at hx;cases hb:Nat.beq x f with
 | true=>
  rw[hb]at hx;simp only[cT,oS]at hx;subst hx;exact hg
 | false=>rw[hb]at hx; exact h x y hx
end Go.Proofs.YtafbipadnnmccaaDoor.Ev.Lg
namespace Go.Proofs.YtafbipadnnmccaaDoor.Ev
open Go.RowKit Go.Maps Go.Sort Go.Shelf Go.Proofs
variable {P:Program} {ρ:Ren}
end Go.Proofs.YtafbipadnnmccaaDoor.Ev
namespace Go.Proofs.YtafbipadnnmccaaDoor.Ev
open Go.Proofs (encStr)
open Go.RowKit
section
variable {α:Type}
end
section
variable {P:Program} {E:Env} {w0:Base} {ρ:Rho} {s:St} {w w':World}
end
end Go.Proofs.YtafbipadnnmccaaDoor.Ev
namespace Go.Proofs.YtafbipadnnmccaaDoor.Ev
open Go.RowKit Go.Maps Go.Sort Go.Shelf Go.Proofs
variable {P:Program}
end Go.Proofs.YtafbipadnnmccaaDoor.Ev
namespace Go.Proofs.YtafbipadnnmccaaDoor.Ev
open Go.RowKit
open Go.ChangeMaps (setBlock)
section
variable {P:Program} {E:Env} {w0:Base} {ρ ρ':Rho} {s s':St} {w w':World}
end
end Go.Proofs.YtafbipadnnmccaaDoor.Ev
namespace Go.Proofs.YtafbipadnnmccaaDoor.Ev
open Go.RowKit
section
variable {P:Program} {E:Env} {self:EV}
variable {w0:Base} {i3 i4 B0 B1:Nat} {ops3 ops4:Array Oper} {on oe:Oper} {rest3 rest4:List Oper} {c:Operand} {Z:Code} {ti:Tmp}
end
section
variable {E:Env} {self:EV}
end
end Go.Proofs.YtafbipadnnmccaaDoor.Ev
namespace Go.Proofs.YtafbipadnnmccaaDoor.Ev.Fz
open Go.Proofs.YtafbipadnnmccaaDoor.Ev
structure Fz where
 b:Nat
 e:TypeId
 z:Nat
 n:Nat
 c:Tr (Tr V)
variable {F:Fz}
section
variable {α β γ:Type} {st:β->St} {up:β->St->β} {st1:γ->St} {up1:γ->St->γ}
end
section
variable {β γ:Type} {st:β->St} {up:β->St->β} {st1:γ->St} {up1:γ->St->γ}
end
end Go.Proofs.YtafbipadnnmccaaDoor.Ev.Fz
namespace Go.Proofs.YtafbipadnnmccaaDoor.Ev
open Go.RowKit Go.Maps Go.Sort Go.Shelf Go.Proofs
section
end
section
variable {P:Program} {E:Env} {w0:Base} {ρ:Rho} {s:St} {w w':World}
end
end Go.Proofs.YtafbipadnnmccaaDoor.Ev
namespace Go.Proofs.YtafbipadnnmccaaDoor.Ev
open Go.Shelf Go.RowKit Go.Proofs
variable {P:Program} {ρ:Ren}
def headB (T b:Nat) (s:St):Option (V×St):=
 (match s.heap.get b with
  | some (.cells e z n ro c)=>bif Nat.beq e T&&Nat.beq z 2&&Nat.blt 0 n&&!ro then(c.get 0).bind fun t=>t.get 0 else none
  | _=>none).bind fun v=>some (v,s.note b 0 1 false)
def qaq (T:Nat):KF:=⟨fun args s=>match args with
 | [.ptr b o]=>bif Nat.beq o 0 then(headB T b s).bind fun p=>match p.1 with
  | .nilptr=>(stK p.2 b 0 1 (one (.ptr b 0))).bind fun s=>some (.ret (.tuple []),s)
  | .ptr b' o'=>bif Nat.beq b' b&&Nat.beq o' 0 then some (.ret (.tuple []),p.2)else none
  | _=>none
  else none
 | _=>none⟩
structure BuildOk (P:Program) (T f:Nat):Prop where
 used:∀(b o:Nat) (w:World),w.cell? ⟨b,o,none⟩=some (.pointer (some ⟨b,o,none⟩))->Calls P f #[.pointer (some ⟨b,o,none⟩)] w fun e w'=>e=.returned (.tuple #[])/\w'=w
 fresh:∀(b o n:Nat) (w:World),w.cell? ⟨b,o,none⟩=some (.pointer none)->w.shape? b=some (T,n)->o%2=0->o+2<=n->w.frozen? ⟨b,o,none⟩=false->Calls P f #[.pointer (some ⟨b,o,none⟩)] w fun e w'=>e=.returned (.tuple #[])/\w'=w.setCell ⟨b,o,none⟩ (.pointer (some ⟨b,o,none⟩))
theorem lies_at {T n o d:Nat} (hd:P.depth=d+1) (hT:P.cellsOf T=2) (ho:o%2=0) (hn:o+2<=n):liesAt P P.depth T (n/P.cellsOf T) o T 1=true:=by
 have hs:sameLayout P P.depth T T=true:=by
  rw[hd]; unfold sameLayout; simp
 have hr:rowAt P (sameLayout P P.depth · T) P.depth T (n/2) o 1=true:=by
  conv=>lhs; arg 3; rw[hd]
  unfold rowAt;simp only[hT,ho,hs];have:o/2+1<=n/2:=by omega
  simp[this]
 rw[hT,hd];rw[hd]at hr;unfold liesAt;rw[hd,hr,Bool.true_or]
theorem headB_locp (T b:Nat):LocP fun s=>headB T b s:=
 LocP.read (b:=b) (lo:=0) (hi:=1) fun o=>match o with
  | some (.cells e z n ro c)=>bif Nat.beq e T&&Nat.beq z 2&&Nat.blt 0 n&&!ro then(c.get 0).bind fun t=>t.get 0 else none
  | _=>none
theorem headB_lg (T b:Nat):Lg.LocP fun s=>headB T b s:=
 Lg.LocP.read (b:=b) (lo:=0) (hi:=1) fun o=>match o with
  | some (.cells e z n ro c)=>bif Nat.beq e T&&Nat.beq z 2&&Nat.blt 0 n&&!ro then(c.get 0).bind fun t=>t.get 0 else none
  | _=>none
theorem qkl (T:Nat) (args:List V):LocP fun s=>(qaq T).run args s:=by
 unfold qaq;dsimp only;split
 . refine Loc.cond (Loc.bind (headB_locp _ _) fun v=>?_) Loc.none
   dsimp only;split
   . exact Loc.bindS (loc_stK _ _ _ _) (LocP.ret _)
   . exact Loc.cond (LocP.ret _) Loc.none
   . exact Loc.none
 . exact Loc.none
theorem kfCopyCheck_lg (T:Nat) (args:List V):Lg.LocP fun s=>(qaq T).run args s:=by
 unfold qaq;dsimp only;split
 . refine Lg.Loc.cond (Lg.Loc.bind (headB_lg _ _) fun v=>?_) Lg.Loc.none
   dsimp only;split
   . exact Lg.Loc.bindS (Lg.loc_stK _ _ _ _) (Lg.LocP.ret _)
   . exact Lg.Loc.cond (Lg.LocP.ret _) Lg.Loc.none
   . exact Lg.Loc.none
 . exact Lg.Loc.none
section
variable {E:Env} {w0:Base} {ρ:Rho} {s:St} {w:World}
theorem store_one {cb o:Nat} {v x:Value} {w w':World} (hc:w.cell? ⟨cb,o,none⟩=some x) (hf:w.frozen? ⟨cb,o,none⟩=false) (hv:v.oneCell'=true) (h:(storeCells ⟨cb,o,none⟩ [v] 0).run P w=.ok () w'):w'=w.setCell ⟨cb,o,none⟩ v:=by
 have:=run_storeCells_cells (P:=P) cb o [v] 0 w (fun j hj=>by
  have:j=0:=by simpa using hj
  subst this; simp[hc]) (fun j hj=>by
  have:j=0:=by simpa using hj
  subst this; simpa using hf) (fun u hu=>by rw[List.mem_singleton.1 hu]; exact hv)
 rw[this]at h;have:=(Result.ok.inj h).2;rw[<- this];rfl
theorem copyCheck_well {T:Nat} {f:FuncId} (h:BuildOk P T f):KnWell P E f (qaq T):=by
 refine⟨qkl T,fun w0 ρ s w args cargs e s' hR hv hg=>?_⟩;unfold qaq at hg;dsimp only at hg;split at hg
 . rename_i b o
   obtain⟨l'⟩:=cargs;cases hv with
   | cons hp ht=>
   cases ht;cases ho:Nat.beq o 0 with
   | false=>rw[ho]at hg; cases hg
   | true=>
   rw[ho,cT]at hg;rw[Ev.beq_true]at ho;subst ho;simp only[oI]at hg;obtain⟨⟨v,s1⟩,hh,hg⟩:=hg;dsimp only at hg;unfold headB at hh;simp only[oI,oS,pM]at hh;obtain⟨v',hh,rfl,rfl⟩:=hh;split at hh
   . rename_i e' z n ro c hb
     cases hc:(Nat.beq e' T&&Nat.beq z 2&&Nat.blt 0 n&&!ro)with
     | false=>rw[hc]at hh; cases hh
     | true=>
     rw[hc,cT]at hh;simp only[bA,Ev.beq_true,blt_true,Bool.not_eq_true']at hc;obtain⟨⟨⟨rfl,rfl⟩,hn⟩,rfl⟩:=hc;simp only[oI]at hh;obtain⟨t,ht,hv0⟩:=hh;cases hp with
     | @ptr _ _ cb sh sz hρ=>
     obtain⟨cs,fr,hcr⟩:=qb1 hR hb hρ;have hroom:=hcr.room;have hsize:=hcr.size;have hal:=hcr.al;obtain⟨_,hfree⟩:=hcr.own rfl;have hin:sh<cs.size:=by omega
     have hcell:w.cell? ⟨cb,sh+0,none⟩=some cs[sh]:=by
      unfold World.cell?;simp only[hcr.heap,Nat.add_zero];simp[hin]
     have hvr:VRel ρ v' cs[sh]:=hcr.cell 0 v' cs[sh] (by unfold qbd; rw[Nat.zero_div,ht]; exact hv0) (by omega) (by rw[Nat.add_zero,Array.getElem?_eq_getElem hin])
     have hshape:w.shape? cb=some (e',cs.size):=by
      unfold World.shape?;rw[hcr.heap]
     have hfz:w.frozen? ⟨cb,sh+0,none⟩=false:=by
      unfold World.frozen?;simp only[hcr.heap,Nat.add_zero];have:=hfree.not (i:=sh) (by omega);simp only[Bool.and_eq_false_iff,decide_eq_false_iff_not];omega
     have hR1:Rel E w0 ρ (s.note b 0 1 false) w:=hR.note _ _ _ _;split at hg
     . simp only[oI,oS,pM]at hg
       obtain⟨s2,hst,rfl,rfl⟩:=hg;have hpr:VRel ρ (.ptr b 0) (.pointer (some ⟨cb,sh+0,none⟩)):=.ptr hρ
       obtain⟨w',hrun,hR'⟩:=stK_sim (P:=P) hR1 hst hρ (c:=[.pointer (some ⟨cb,sh+0,none⟩)]) ⟨rfl,fun x hx=>by rw[List.mem_singleton.1 hx]; rfl,fun i u hi cv hcv=>by
        cases i with
        | zero=>
         have hi':some (V.ptr b 0)=some u:=hi;cases hi';cases hcv;exact hpr
        | succ i=>simp at hcv⟩ (o:=sh) (i:=0) (by omega)
       generalize cs[sh]=x at hvr hcell;cases hvr;have hw':w'=w.setCell ⟨cb,sh+0,none⟩ (.pointer (some ⟨cb,sh+0,none⟩)):=store_one hcell hfz rfl hrun;refine(h.fresh cb (sh+0) cs.size w hcell hshape (by omega) (by omega) hfz).mono fun ce w2 hce=>?_;obtain⟨rfl,rfl⟩:=hce;rw[<- hw'];exact⟨ρ,_,rfl,Rho.le_refl ρ,.tuple .nil,hR'⟩
     . rename_i b' o'
       cases hbo:(Nat.beq b' b&&Nat.beq o' 0)with
       | false=>rw[hbo]at hg; cases hg
       | true=>
       rw[hbo]at hg;simp only[bA,Ev.beq_true]at hbo;obtain⟨rfl,rfl⟩:=hbo;simp only[cT,oS,pM]at hg;obtain⟨rfl,rfl⟩:=hg;generalize cs[sh]=x at hvr hcell;cases hvr with
       | @ptr _ _ cb2 sh2 sz2 hρ2=>
       have hq:=hρ.symm.trans hρ2;simp only[oS,pM]at hq;obtain⟨rfl,rfl,rfl⟩:=hq;refine(h.used cb (sh+0) w hcell).mono fun ce w2 hce=>?_;obtain⟨rfl,rfl⟩:=hce;exact⟨ρ,_,rfl,Rho.le_refl ρ,.tuple .nil,hR1⟩
     . cases hg
   . cases hh
 . cases hg
end
end Go.Proofs.YtafbipadnnmccaaDoor.Ev
namespace Go.Proofs.YtafbipadnnmccaaDoor.Ev
open Go.Shelf Go.RowKit Go.Proofs
variable {P:Program} {ρ:Ren}
theorem lies_bytes {e:TypeId} (hc:P.cellsOf e=1) (count o n:Nat) (hn:o+n<=count):liesAt P P.depth e count o e n=true:=by
 have hd:P.depth=(2*(P.types.size+Made.depth)+1)+1:=rfl;rw[hd];simp only[liesAt,Bool.or_eq_true]
 left
 rw[hd];simp[rowAt,hc,hn,sameLayout,Nat.mod_one]
theorem qnb (w:World) (pt it ty e:TypeId) (hp:P.underlying pt=some (.pointer e)) (hc:P.cellsOf e=1) (g o cells:Nat) (hsh:w.shape? g=some (e,cells)) (l:List UInt8) (h0:l≠[]) (hn:o+l.length<=cells) (h63:l.length<=9223372036854775807)
 (hcell:∀j x,l[j]?=some x->w.cell? ((⟨g,o,none⟩:Addr).add j)=some (.int .u8 x.toNat)) :
 (Builtin.unsafeString_ #[pt,it] ty #[.pointer (some ⟨g,o,none⟩),.int .i64 l.length]).run P w=.ok (.string ⟨l.toArray⟩) (w.freeze ⟨g,o,none⟩ l.length):=by
 have hl:l.length≠0:=by simpa using h0
 have hlb:=Lib.run_loadBytes (P:=P) w l ⟨g,o,none⟩ .empty hcell;have hlies:=lies_bytes (P:=P) hc (cells/P.cellsOf e) o l.length (by rw[hc]; simpa using hn);have h63':¬(9223372036854775807:Int)<(l.length:Int):=by omega
 have hdef:Builtin.unsafeString_ #[pt,it] ty #[.pointer (some ⟨g,o,none⟩),.int .i64 l.length] =
  (do
   let n <- asInt (.int .i64 l.length)
   if n < 0 then runtimePanic (.error "unsafe.String: len out of range")
   if n > IntKind.i64.max then unsupported (.unsafePointer "String: a length above the largest int")
   if n=0 then pure (.string .empty)
   else if <- variablesAt ⟨g,o,none⟩ (<- elemOf pt) n.toNat then do
    let s <- loadBytes ⟨g,o,none⟩ .empty n.toNat
    freeze ⟨g,o,none⟩ n.toNat
    pure (.string s)
   else unsupported (.unsafePointer "String: not so many bytes at ptr")) := rfl
 rw[hdef];have hmax:IntKind.i64.max=9223372036854775807:=rfl;have hneg:¬(l.length:Int)<0:=by omega
 simp[asInt,asIntOf,hmax,h63',hneg,hl,variablesAt,hsh,elemOf,run_underlying hp,hlies,hlb]
set_option maxHeartbeats 2000000 in
set_option maxRecDepth 100000 in
theorem string_some (L:Lays.n169 P ρ) (X:Builder.Extra P ρ) (b o g so cap cells:Nat) (l:List UInt8) (w:World) (hb:w.cell? ⟨b,o+1,none⟩=some (.slice (some ⟨g,so,none⟩) l.length cap)) (hsh:w.shape? g=some (ρ.t 5,cells)) (h0:l≠[]) (hn:so+l.length<=cells) (h63:l.length<=9223372036854775807) (hcap:cap≠0)
 (hcell:∀j x,l[j]?=some x->w.cell? ((⟨g,so,none⟩:Addr).add j)=some (.int .u8 x.toNat)) :
 Calls P (ρ.f 169) #[.pointer (some ⟨b,o,none⟩)] w fun e w'=>e=.returned (.string ⟨l.toArray⟩)/\w'=w.drew.freeze ⟨g,so,none⟩ l.length:=by
 have c1:w.drew.cell? ⟨b,o+1,none⟩=some (.slice (some ⟨g,so,none⟩) l.length cap):=hb
 have hSD:(Builtin.unsafeSliceData_ #[(ρ.t 37)] (ρ.t 127) #[.slice (some ⟨g,so,none⟩) l.length cap]).run P w.drew=.ok (.pointer (some ⟨g,so,none⟩)) w.drew:=
  Lib.run_unsafeSliceData_row _ _ _ _ _ _ hcap
 have hUS:(Builtin.unsafeString_ #[(ρ.t 127),(ρ.t 3)] (ρ.t 9) #[.pointer (some ⟨g,so,none⟩),.int .i64 l.length]).run P w.drew=.ok (.string ⟨l.toArray⟩) (w.drew.freeze ⟨g,so,none⟩ l.length):=
  qnb w.drew (ρ.t 127) (ρ.t 3) (ρ.t 9) (ρ.t 5) L.t127 X.cellsByte g so cells hsh l h0 hn h63 hcell
 have mixed:=L.mixed;have t72:=L.t72; have a72:=L.a72; have z72:=L.z72; have v72:=L.v72; have u72:=run_underlying L.t72;have t70:=L.t70; have a70:=L.a70; have z70:=L.z70; have v70:=L.v70; have u70:=run_underlying L.t70;have t37:=L.t37; have a37:=L.a37; have z37:=L.z37; have v37:=L.v37; have u37:=run_underlying L.t37;have t127:=L.t127; have a127:=L.a127; have z127:=L.z127; have v127:=L.v127; have u127:=run_underlying L.t127;have t3:=L.t3; have a3:=L.a3; have z3:=L.z3; have v3:=L.v3; have u3:=run_underlying L.t3;have t9:=L.t9; have a9:=L.a9; have z9:=L.z9; have v9:=L.v9; have u9:=run_underlying L.t9;have t5:=X.t5; have a5:=X.a5; have z5:=X.z5; have v5:=X.v5; have u5:=run_underlying X.t5
 go_enter L.f169,Body.n169_ntmps ρ
 go_wp2
 go_region_o
 all_goals (go_wp2; go_ret; exact⟨rfl,rfl⟩)
set_option maxHeartbeats 2000000 in
set_option maxRecDepth 100000 in
theorem string_none (L:Lays.n169 P ρ) (X:Builder.Extra P ρ) (b o:Nat) (w:World) (hb:w.cell? ⟨b,o+1,none⟩=some (.slice none 0 0)) :
 Calls P (ρ.f 169) #[.pointer (some ⟨b,o,none⟩)] w fun e w'=>e=.returned (.string ⟨#[]⟩)/\w'=w.drew:=by
 have hUS:=Any.unsafeString_none L X;have c1:w.drew.cell? ⟨b,o+1,none⟩=some (.slice none 0 0):=hb;have hSD:(Builtin.unsafeSliceData_ #[(ρ.t 37)] (ρ.t 127) #[.slice none 0 0]).run P w.drew=.ok (.pointer none) w.drew:=rfl;have mixed:=L.mixed;have t72:=L.t72; have a72:=L.a72; have z72:=L.z72; have v72:=L.v72; have u72:=run_underlying L.t72;have t70:=L.t70; have a70:=L.a70; have z70:=L.z70; have v70:=L.v70; have u70:=run_underlying L.t70;have t37:=L.t37; have a37:=L.a37; have z37:=L.z37; have v37:=L.v37; have u37:=run_underlying L.t37;have t127:=L.t127; have a127:=L.a127; have z127:=L.z127; have v127:=L.v127; have u127:=run_underlying L.t127;have t3:=L.t3; have a3:=L.a3; have z3:=L.z3; have v3:=L.v3; have u3:=run_underlying L.t3;have t9:=L.t9; have a9:=L.a9; have z9:=L.z9; have v9:=L.v9; have u9:=run_underlying L.t9;have t5:=X.t5; have a5:=X.a5; have z5:=X.z5; have v5:=X.v5; have u5:=run_underlying X.t5
 go_enter L.f169,Body.n169_ntmps ρ
 go_wp2
 go_region_o
 all_goals (go_wp2; go_ret; exact⟨rfl,rfl⟩)
end Go.Proofs.YtafbipadnnmccaaDoor.Ev
namespace Go.Proofs.YtafbipadnnmccaaDoor.Ev
open Go.Shelf Go.RowKit Go.Proofs
def u8Of (v:V):Option UInt8:=match v with
 | .int .u8 (.ofNat k)=>bif Nat.blt k 256 then some (UInt8.ofNat k)else none
 | _=>none
def u8sOf:List (Tr V)->Option (List UInt8)
 | []=>some []
 | t::l=>(t.get 0).bind fun v=>(u8Of v).bind fun x=>(u8sOf l).bind fun q=>some (x::q)
theorem u8sOf_row:∀l:List UInt8,u8sOf (l.map qc6)=some l
 | []=>rfl
 | x::l=>by
  have hx:u8Of (.int .u8 (.ofNat x.toNat))=some x:=by
   show(bif Nat.blt x.toNat 256 then some (UInt8.ofNat x.toNat)else none)=_;rw[blt_true.2 x.toNat_lt,cT,UInt8.ofNat_toNat]
  show((some (V.int .u8 (.ofNat x.toNat))).bind fun v=>(u8Of v).bind fun x=>(u8sOf (l.map qc6)).bind fun q=>some (x::q))=_;rw[oB,hx,oB,u8sOf_row l];rfl
def ownB (U r:Nat) (s:St):Option (Unit×St):=
 (match s.heap.get r with
  | some (.cells e z n ro c)=>bif Nat.beq e U&&Nat.beq z 1&&!ro then some ()else none
  | _=>none).bind fun u=>some (u,s.note r 0 1 false)
def strAt (U r off n:Nat) (s:St):Option (En×St):=
 (ownB U r s).bind fun q=>(ldN r 1 n off q.2).bind fun k=>(u8sOf k.1).bind fun l=>some (.ret (sv l),setO k.2 r .dead)
def qd0 (U:Nat):KF:=⟨fun args s=>match args with
 | [.ptr b o]=>bif Nat.beq o 0 then(ld s b 1).bind fun p=>match p.1 with
  | .nilslice=>some (.ret (sv []),p.2)
  | .oslice r off n z=>bif Nat.beq z 1&&Nat.blt 0 n then strAt U r off n p.2 else none
  | _=>none
  else none
 | _=>none⟩
theorem ownB_locp (U r:Nat):LocP fun s=>ownB U r s:=
 LocP.read (b:=r) (lo:=0) (hi:=1) fun o=>match o with
  | some (.cells e z n ro c)=>bif Nat.beq e U&&Nat.beq z 1&&!ro then some ()else none
  | _=>none
theorem ownB_lg (U r:Nat):Lg.LocP fun s=>ownB U r s:=
 Lg.LocP.read (b:=r) (lo:=0) (hi:=1) fun o=>match o with
  | some (.cells e z n ro c)=>bif Nat.beq e U&&Nat.beq z 1&&!ro then some ()else none
  | _=>none
theorem strAt_locp (U r off n:Nat):LocP fun s=>strAt U r off n s:=by
 unfold strAt;refine Loc.bind (ownB_locp U r) fun u=>?_;dsimp only;refine Loc.bind (loc_ldN _ _ _ _) fun k=>?_;dsimp only;exact Loc.opt (o:=u8sOf k) fun l=>loc_setRet r .dead _
theorem strAt_lg (U r off n:Nat):Lg.LocP fun s=>strAt U r off n s:=by
 unfold strAt;refine Lg.Loc.bind (ownB_lg U r) fun u=>?_;dsimp only;refine Lg.Loc.bind (Lg.loc_ldN _ _ _ _) fun k=>?_;dsimp only;exact Lg.Loc.opt (o:=u8sOf k) fun l=>Lg.loc_setRet r .dead _
theorem kfString_locp (U:Nat) (args:List V):LocP fun s=>(qd0 U).run args s:=by
 unfold qd0;dsimp only;split
 . refine Loc.cond (Loc.bind (loc_ld _ _) fun v=>?_) Loc.none
   dsimp only;split
   . exact LocP.ret _
   . exact Loc.cond (strAt_locp _ _ _ _) Loc.none
   . exact Loc.none
 . exact Loc.none
theorem kfString_lg (U:Nat) (args:List V):Lg.LocP fun s=>(qd0 U).run args s:=by
 unfold qd0;dsimp only;split
 . refine Lg.Loc.cond (Lg.Loc.bind (Lg.loc_ld _ _) fun v=>?_) Lg.Loc.none
   dsimp only;split
   . exact Lg.LocP.ret _
   . exact Lg.Loc.cond (strAt_lg _ _ _ _) Lg.Loc.none
   . exact Lg.Loc.none
 . exact Lg.Loc.none
structure StringOk (P:Program) (U f:Nat):Prop where
 full:∀(b o g so cap cells:Nat) (l:List UInt8) (w:World),w.cell? ⟨b,o+1,none⟩=some (.slice (some ⟨g,so,none⟩) l.length cap)->w.shape? g=some (U,cells)->l≠[]->so+l.length<=cells->l.length<=9223372036854775807->cap≠0->
  (∀j x,l[j]?=some x->w.cell? ((⟨g,so,none⟩:Addr).add j)=some (.int .u8 x.toNat))->
  Calls P f #[.pointer (some ⟨b,o,none⟩)] w fun e w'=>e=.returned (.string ⟨l.toArray⟩)/\w'=w.drew.freeze ⟨g,so,none⟩ l.length
 empty:∀(b o:Nat) (w:World),w.cell? ⟨b,o+1,none⟩=some (.slice none 0 0)->Calls P f #[.pointer (some ⟨b,o,none⟩)] w fun e w'=>e=.returned (.string ⟨#[]⟩)/\w'=w.drew
theorem stringOk_of {P:Program} {ρ:Ren} (L:Lays.n169 P ρ) (X:Builder.Extra P ρ):StringOk P (ρ.t 5) (ρ.f 169):=
 ⟨fun b o g so cap cells l w h1 h2 h3 h4 h5 h6 h7=>string_some L X b o g so cap cells l w h1 h2 h3 h4 h5 h6 h7,fun b o w h=>string_none L X b o w h⟩
section
variable {P:Program} {E:Env} {w0:Base} {ρ:Rho} {s:St} {w:World}
theorem bytes_rel:∀{ts:List (Tr V)} {c:List Value} {l:List UInt8},ERels ρ 1 ts c->u8sOf ts=some l->c=l.map fun x=>Value.int .u8 x.toNat
 | _,_,l,.nil,h=>by
  simp only[u8sOf,oS]at h;subst h; rfl
 | _,_,l,.cons (t:=t) (c:=c) (l:=ts) (cl:=cl) h1 r,h=>by
  unfold u8sOf at h;simp only[oI,oS]at h;obtain⟨v,hv,x,hx,q,hq,rfl⟩:=h;have ih:=bytes_rel r hq;have hl:=h1.len
  match c,hl with
  | [cv],_=>
   have hvr:=h1.rel 0 v hv cv rfl;unfold u8Of at hx;split at hx
   . rename_i k
     cases hk:Nat.blt k 256 with
     | false=>rw[hk]at hx; cases hx
     | true=>
      rw[hk]at hx;simp only[cT,oS]at hx;rw[blt_true]at hk;subst hx;cases hvr;rw[ih];show [Value.int .u8 (.ofNat k)]++_=_;rw[List.map_cons,show(UInt8.ofNat k).toNat=k from by rw[UInt8.toNat_ofNat']; omega];rfl
   . cases hx
theorem ldN_bound {b:Nat}:∀(n off:Nat) (s:St) {l:List (Tr V)} {s':St},ldN b 1 n off s=some (l,s')->0<n->∃e z m ro c,s.heap.get b=some (.cells e z m ro c)/\off+n<=z*m/\z*m<big
 | 0,_,_,_,_,_,h=>by omega
 | n+1,off,s,l,s',h,_=>by
  unfold ldN at h;simp only[oI]at h;obtain⟨⟨t,s1⟩,hk,h⟩:=h;obtain⟨e,z,m,ro,c,hb,h1,h2,_,rfl⟩:=ldK_inv hk;cases n with
  | zero=>exact⟨e,z,m,ro,c,hb,by omega,h2⟩
  | succ n=>
   dsimp only at h;obtain⟨⟨l2,s2⟩,h3,_⟩:=h;obtain⟨e',z',m',ro',c',hb',h1',h2'⟩:=ldN_bound (n+1) (off+1) _ h3 (by omega);rw[qam,hb]at hb';simp only[oS,O.cells.injEq]at hb';obtain⟨rfl,rfl,rfl,rfl,rfl⟩:=hb';exact⟨e,z,m,ro,c,hb,by omega,h2⟩
theorem upd_freeze {cg:Nat} {cs:Array Value} {e:TypeId} {fr:Nat×Nat} (h:w.heap[cg]?=some (.cells cs e fr)) (o n:Nat) (hn:n≠0):∃fr',Upd w cg (.cells cs e fr') (w.drew.freeze ⟨cg,o,none⟩ n):=by
 obtain⟨lo,hi⟩:=fr
 have hlt:cg<w.heap.size:=by
  rcases Nat.lt_or_ge cg w.heap.size with q|q
  . exact q
  . rw[Array.getElem?_eq_none q]at h; cases h
 refine⟨if lo==hi then(o,o+n)else(min lo o,max hi (o+n)),?_,fun j hj=>?_,?_,?_,?_,?_⟩
 all_goals unfold World.freeze
 all_goals rw[iN hn]
 . show(w.heap.modify cg _)[cg]?=_
   rw[Array.getElem?_modify,iP rfl,h];rfl
 . show(w.heap.modify cg _)[j]?=_
   rw[Array.getElem?_modify,iN (fun q=>hj q.symm)]
 . show(w.heap.modify cg _).size=_
   rw[Array.size_modify]
 . rfl
 . rfl
 . rfl
theorem string_well {U:Nat} {f:FuncId} (h:StringOk P U f):KnWell P E f (qd0 U):=by
 refine⟨kfString_locp U,fun w0 ρ s w args cargs e s' hR hv hg=>?_⟩;unfold qd0 at hg;dsimp only at hg;split at hg
 . rename_i b o
   obtain⟨l'⟩:=cargs;cases hv with
   | cons hp ht=>
   cases ht;cases ho:Nat.beq o 0 with
   | false=>rw[ho]at hg; cases hg
   | true=>
   rw[ho,cT]at hg;rw[Ev.beq_true]at ho;subst ho;simp only[oI]at hg;obtain⟨⟨v,s1⟩,hh,hg⟩:=hg;dsimp only at hg;cases hp with
   | @ptr _ _ cb sh sz hρ=>
   obtain⟨cv,hcell,hvr,_,hsame⟩:=ld_sim hR hh hρ;have hR1:=hR.same hsame;split at hg
   . simp only[oS,pM]at hg
     obtain⟨rfl,rfl⟩:=hg;cases hvr;refine(h.empty cb (sh+0) w hcell).mono fun ce w2 hce=>?_;obtain⟨rfl,rfl⟩:=hce;exact⟨ρ,_,rfl,Rho.le_refl ρ,.str ⟨#[]⟩,hR1.drew _⟩
   . rename_i r off n z
     cases hz:(Nat.beq z 1&&Nat.blt 0 n)with
     | false=>rw[hz]at hg; cases hg
     | true=>
     rw[hz,cT]at hg;simp only[bA,Ev.beq_true,blt_true]at hz;obtain⟨rfl,hn0⟩:=hz;unfold strAt at hg;simp only[oI,oS,pM]at hg;obtain⟨⟨u,s2⟩,how,⟨ts,s3⟩,hld,l,hl,rfl,rfl⟩:=hg;dsimp only at hld hl;unfold ownB at how;simp only[oI,oS,pM]at how;obtain⟨u',how,_,rfl⟩:=how;cases hvr with
     | @oslice _ _ _ _ cap cg shg szg a hρg hle hz1 hsz ha=>
     split at how
     . rename_i e' z' n' ro c hbg
       cases hc:(Nat.beq e' U&&Nat.beq z' 1&&!ro)with
       | false=>rw[hc]at how; cases how
       | true=>
       simp only[bA,Ev.beq_true,Bool.not_eq_true']at hc;obtain⟨⟨rfl,rfl⟩,rfl⟩:=hc;obtain⟨cs,fr,hcr⟩:=qb1 hR1 hbg hρg;have hR2:Rel E w0 ρ (s1.note r 0 1 false) w:=hR1.note _ _ _ _;obtain⟨cc,hcells,hER,hlen,hsame3⟩:=ldN_sim hρg n off _ s3 ts hR2 hld;have hR3:=hR2.same hsame3;have hcc:=bytes_rel hER hl;have hccl:=hER.length;have haa:=ha (by omega);subst haa
       have hll:l.length=n:=by
        have:=congrArg List.length hcc;rw[lM]at this;omega
       have hl0:l≠[]:=fun e=>by rw[e]at hll; simp at hll; omega
       have hshape:w.shape? cg=some (e',cs.size):=by
        unfold World.shape?;rw[hcr.heap]
       have hsize:=hcr.size
       have hbytes:∀j x,l[j]?=some x->w.cell? ((⟨cg,shg+off,none⟩:Addr).add j)=some (.int .u8 x.toNat):=fun j x hx=>by
        have:=hcells j (.int .u8 x.toNat) (by rw[hcc,List.getElem?_map,hx]; rfl);have hadd:(⟨cg,shg+off,none⟩:Addr).add j=⟨cg,shg+off+j,none⟩:=by unfold Addr.add; split<;>simp_all
        rw[hadd]; exact this
       have hb3:s3.heap.get r=some (.cells e' 1 n' false c):=by rw[hsame3.heap,qam]; exact hbg
       rw[<- hll]at hcell hle
       have h63:l.length<=9223372036854775807:=by
        obtain⟨e2,z2,m2,ro2,c2,_,q1,q2⟩:=ldN_bound n off _ hld hn0;have:big=1099511627776:=rfl;omega
       refine(h.full cb (sh+0) cg (shg+off) cap cs.size l w hcell hshape hl0 (by omega) h63 (by omega) hbytes).mono fun ce w2 hce=>?_;obtain⟨rfl,rfl⟩:=hce;have hup:∃fr',Upd w cg (.cells cs e' fr') (w.drew.freeze ⟨cg,shg+off,none⟩ l.length):=upd_freeze hcr.heap _ _ (fun e=>hl0 (List.length_eq_zero_iff.1 e));obtain⟨fr',hu⟩:=hup;refine⟨ρ,_,rfl,Rho.le_refl ρ,?_,?_⟩
       . exact .str ⟨l.toArray⟩
       . exact(hR3.note r 0 big true).write (o:=.cells e' 1 n' false c) (o':=.dead) (by rw[qam]; exact hb3) rfl hρg hu trivial
     . cases how
   . cases hg
 . cases hg
end
end Go.Proofs.YtafbipadnnmccaaDoor.Ev
end
