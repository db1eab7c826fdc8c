/-
  WHAT THE FUNCTIONS COME TO: each is read by the evaluator,printed,and told as a function of data,part 5 of 17 (no condition).
-/
import Derived.Test.YtafbipadnnmccaaDoorW4
noncomputable section
namespace Go.Proofs.YtafbipadnnmccaaDoor.W
open Go.Proofs.YtafbipadnnmccaaDoor.Ev Go.RowKit
structure RefL (K:FuncId->Option KF):Prop where
 k24:K 24=none
 k44:K 44=none
 k23:K 23=none
 k25:K 25=none
 k46:K 46=none
 k66:K 66=none
 k73:K 73=none
 k87:K 87=none
 k67:K 67=none
 k47:K 47=none
 k48:K 48=none
 k99:K 99=none
 k100:K 100=none
 k101:K 101=none
 k68:K 68=none
 k71:K 71=none
 k38:K 38=none
 k60:K 60=none
 k13:K 13=none
 k35:K 35=none
 k72:K 72=none
 k70:K 70=none
 k69:K 69=none
 k90:K 90=none
 k88:K 88=none
 k98:K 98=none
 k74:K 74=none
 k89:K 89=none
 k49:K 49=none
 k19:K 19=none
 k20:K 20=none
 k21:K 21=none
 k22:K 22=none
 k45:K 45=none
 k8:K 8=none
 k26:K 26=none
 k28:K 28=none
 k75:K 75=none
 k50:K 50=none
 k78:K 78=none
 k30:K 30=none
 k31:K 31=none
 k102:K 102=none
 k93:K 93=none
 k92:K 92=none
 k77:K 77=none
 k76:K 76=none
 k91:K 91=none
 k27:K 27=none
 k51:K 51=none
 k29:K 29=none
 k9:K 9=none
 k11:K 11=none
 k34:K 34=none
 k10:K 10=none
 k14:K 14=none
 k36:K 36=none
 k15:K 15=none
 k12:K 12=none
 k85:K 85=none
 k3:K 3=none
abbrev RdL (K:FuncId->Option KF) (f:FuncId) (F:Func) (B:D):Prop:=∀{n:Nat} {args:List V} {s:St} {r:En×St},qd4 E0 (ev E0 K n) qa3 F B args s=some r->(ev E0 K (n+1)).f f args s=some r
section
variable {K:FuncId->Option KF}
theorem rv24 (h:RefL K):RdL K 24 Tryd.f24 B24:=qab (c:=C24) (d:=B24) (by kernel_rfl) (by kernel_rfl) (qa5 C24 _ (by kernel_rfl)) h.k24
theorem rv44 (h:RefL K):RdL K 44 Tryd.f44 B44:=qab (c:=C44) (d:=B44) (by kernel_rfl) (by kernel_rfl) (qa5 C44 _ (by kernel_rfl)) h.k44
theorem rv23 (h:RefL K):RdL K 23 Tryd.f23 B23:=qab (c:=C23) (d:=B23) (by kernel_rfl) (by kernel_rfl) (qa5 C23 _ (by kernel_rfl)) h.k23
theorem rv25 (h:RefL K):RdL K 25 Tryd.f25 B25:=qab (c:=C25) (d:=B25) (by kernel_rfl) (by kernel_rfl) (qa5 C25 _ (by kernel_rfl)) h.k25
theorem rv46 (h:RefL K):RdL K 46 Tryd.f46 B46:=qab (c:=C46) (d:=B46) (by kernel_rfl) (by kernel_rfl) (qa5 C46 _ (by kernel_rfl)) h.k46
theorem rv66 (h:RefL K):RdL K 66 Tryd.f66 B66:=qab (c:=C66) (d:=B66) (by kernel_rfl) (by kernel_rfl) (qa5 C66 _ (by kernel_rfl)) h.k66
theorem rv73 (h:RefL K):RdL K 73 Tryd.f73 B73:=qab (c:=C73) (d:=B73) (by kernel_rfl) (by kernel_rfl) (qa5 C73 _ (by kernel_rfl)) h.k73
theorem rv87 (h:RefL K):RdL K 87 Tryd.f87 B87:=qab (c:=C87) (d:=B87) (by kernel_rfl) (by kernel_rfl) (qa5 C87 _ (by kernel_rfl)) h.k87
theorem rv67 (h:RefL K):RdL K 67 Tryd.f67 B67:=qab (c:=C67) (d:=B67) (by kernel_rfl) (by kernel_rfl) (qa5 C67 _ (by kernel_rfl)) h.k67
theorem rv47 (h:RefL K):RdL K 47 Tryd.f47 B47:=qab (c:=C47) (d:=B47) (by kernel_rfl) (by kernel_rfl) (qa5 C47 _ (by kernel_rfl)) h.k47
theorem rv48 (h:RefL K):RdL K 48 Tryd.f48 B48:=qab (c:=C48) (d:=B48) (by kernel_rfl) (by kernel_rfl) (qa5 C48 _ (by kernel_rfl)) h.k48
theorem rv99 (h:RefL K):RdL K 99 Tryd.f99 B99:=qab (c:=C99) (d:=B99) (by kernel_rfl) (by kernel_rfl) (qa5 C99 _ (by kernel_rfl)) h.k99
theorem rv100 (h:RefL K):RdL K 100 Tryd.f100 B100:=qab (c:=C100) (d:=B100) (by kernel_rfl) (by kernel_rfl) (qa5 C100 _ (by kernel_rfl)) h.k100
theorem rv101 (h:RefL K):RdL K 101 Tryd.f101 B101:=qab (c:=C101) (d:=B101) (by kernel_rfl) (by kernel_rfl) (qa5 C101 _ (by kernel_rfl)) h.k101
theorem rv68 (h:RefL K):RdL K 68 Tryd.f68 B68:=qab (c:=C68) (d:=B68) (by kernel_rfl) (by kernel_rfl) (qa5 C68 _ (by kernel_rfl)) h.k68
theorem rv71 (h:RefL K):RdL K 71 Tryd.f71 B71:=qab (c:=C71) (d:=B71) (by kernel_rfl) (by kernel_rfl) (qa5 C71 _ (by kernel_rfl)) h.k71
theorem rv38 (h:RefL K):RdL K 38 Tryd.f38 B38:=qab (c:=C38) (d:=B38) (by kernel_rfl) (by kernel_rfl) (qa5 C38 _ (by kernel_rfl)) h.k38
theorem rv60 (h:RefL K):RdL K 60 Tryd.f60 B60:=qab (c:=C60) (d:=B60) (by kernel_rfl) (by kernel_rfl) (qa5 C60 _ (by kernel_rfl)) h.k60
theorem rv13 (h:RefL K):RdL K 13 Tryd.f13 B13:=qab (c:=C13) (d:=B13) (by kernel_rfl) (by kernel_rfl) (qa5 C13 _ (by kernel_rfl)) h.k13
theorem rv35 (h:RefL K):RdL K 35 Tryd.f35 B35:=qab (c:=C35) (d:=B35) (by kernel_rfl) (by kernel_rfl) (qa5 C35 _ (by kernel_rfl)) h.k35
theorem rv72 (h:RefL K):RdL K 72 Tryd.f72 B72:=qab (c:=C72) (d:=B72) (by kernel_rfl) (by kernel_rfl) (qa5 C72 _ (by kernel_rfl)) h.k72
theorem rv70 (h:RefL K):RdL K 70 Tryd.f70 B70:=qab (c:=C70) (d:=B70) (by kernel_rfl) (by kernel_rfl) (qa5 C70 _ (by kernel_rfl)) h.k70
theorem rv69 (h:RefL K):RdL K 69 Tryd.f69 B69:=qab (c:=C69) (d:=B69) (by kernel_rfl) (by kernel_rfl) (qa5 C69 _ (by kernel_rfl)) h.k69
theorem rv90 (h:RefL K):RdL K 90 Tryd.f90 B90:=qab (c:=C90) (d:=B90) (by kernel_rfl) (by kernel_rfl) (qa5 C90 _ (by kernel_rfl)) h.k90
theorem rv88 (h:RefL K):RdL K 88 Tryd.f88 B88:=qab (c:=C88) (d:=B88) (by kernel_rfl) (by kernel_rfl) (qa5 C88 _ (by kernel_rfl)) h.k88
theorem rv98 (h:RefL K):RdL K 98 Tryd.f98 B98:=qab (c:=C98) (d:=B98) (by kernel_rfl) (by kernel_rfl) (qa5 C98 _ (by kernel_rfl)) h.k98
theorem rv74 (h:RefL K):RdL K 74 Tryd.f74 B74:=qab (c:=C74) (d:=B74) (by kernel_rfl) (by kernel_rfl) (qa5 C74 _ (by kernel_rfl)) h.k74
theorem rv89 (h:RefL K):RdL K 89 Tryd.f89 B89:=qab (c:=C89) (d:=B89) (by kernel_rfl) (by kernel_rfl) (qa5 C89 _ (by kernel_rfl)) h.k89
theorem rv49 (h:RefL K):RdL K 49 Tryd.f49 B49:=qab (c:=C49) (d:=B49) (by kernel_rfl) (by kernel_rfl) (qa5 C49 _ (by kernel_rfl)) h.k49
theorem rv19 (h:RefL K):RdL K 19 Tryd.f19 B19:=qab (c:=C19) (d:=B19) (by kernel_rfl) (by kernel_rfl) (qa5 C19 _ (by kernel_rfl)) h.k19
theorem rv20 (h:RefL K):RdL K 20 Tryd.f20 B20:=qab (c:=C20) (d:=B20) (by kernel_rfl) (by kernel_rfl) (qa5 C20 _ (by kernel_rfl)) h.k20
theorem rv21 (h:RefL K):RdL K 21 Tryd.f21 B21:=qab (c:=C21) (d:=B21) (by kernel_rfl) (by kernel_rfl) (qa5 C21 _ (by kernel_rfl)) h.k21
theorem rv22 (h:RefL K):RdL K 22 Tryd.f22 B22:=qab (c:=C22) (d:=B22) (by kernel_rfl) (by kernel_rfl) (qa5 C22 _ (by kernel_rfl)) h.k22
theorem rv45 (h:RefL K):RdL K 45 Tryd.f45 B45:=qab (c:=C45) (d:=B45) (by kernel_rfl) (by kernel_rfl) (qa5 C45 _ (by kernel_rfl)) h.k45
theorem rv8 (h:RefL K):RdL K 8 Tryd.f8 B8:=qab (c:=C8) (d:=B8) (by kernel_rfl) (by kernel_rfl) (qa5 C8 _ (by kernel_rfl)) h.k8
theorem rv26 (h:RefL K):RdL K 26 Tryd.f26 B26:=qab (c:=C26) (d:=B26) (by kernel_rfl) (by kernel_rfl) (qa5 C26 _ (by kernel_rfl)) h.k26
theorem rv28 (h:RefL K):RdL K 28 Tryd.f28 B28:=qab (c:=C28) (d:=B28) (by kernel_rfl) (by kernel_rfl) (qa5 C28 _ (by kernel_rfl)) h.k28
theorem rv75 (h:RefL K):RdL K 75 Tryd.f75 B75:=qab (c:=C75) (d:=B75) (by kernel_rfl) (by kernel_rfl) (qa5 C75 _ (by kernel_rfl)) h.k75
theorem rv50 (h:RefL K):RdL K 50 Tryd.f50 B50:=qab (c:=C50) (d:=B50) (by kernel_rfl) (by kernel_rfl) (qa5 C50 _ (by kernel_rfl)) h.k50
theorem rv78 (h:RefL K):RdL K 78 Tryd.f78 B78:=qab (c:=C78) (d:=B78) (by kernel_rfl) (by kernel_rfl) (qa5 C78 _ (by kernel_rfl)) h.k78
theorem rv30 (h:RefL K):RdL K 30 Tryd.f30 B30:=qab (c:=C30) (d:=B30) (by kernel_rfl) (by kernel_rfl) (qa5 C30 _ (by kernel_rfl)) h.k30
theorem rv31 (h:RefL K):RdL K 31 Tryd.f31 B31:=qab (c:=C31) (d:=B31) (by kernel_rfl) (by kernel_rfl) (qa5 C31 _ (by kernel_rfl)) h.k31
theorem rv102 (h:RefL K):RdL K 102 Tryd.f102 B102:=qab (c:=C102) (d:=B102) (by kernel_rfl) (by kernel_rfl) (qa5 C102 _ (by kernel_rfl)) h.k102
theorem rv93 (h:RefL K):RdL K 93 Tryd.f93 B93:=qab (c:=C93) (d:=B93) (by kernel_rfl) (by kernel_rfl) (qa5 C93 _ (by kernel_rfl)) h.k93
theorem rv92 (h:RefL K):RdL K 92 Tryd.f92 B92:=qab (c:=C92) (d:=B92) (by kernel_rfl) (by kernel_rfl) (qa5 C92 _ (by kernel_rfl)) h.k92
theorem rv77 (h:RefL K):RdL K 77 Tryd.f77 B77:=qab (c:=C77) (d:=B77) (by kernel_rfl) (by kernel_rfl) (qa5 C77 _ (by kernel_rfl)) h.k77
theorem rv76 (h:RefL K):RdL K 76 Tryd.f76 B76:=qab (c:=C76) (d:=B76) (by kernel_rfl) (by kernel_rfl) (qa5 C76 _ (by kernel_rfl)) h.k76
theorem rv91 (h:RefL K):RdL K 91 Tryd.f91 B91:=qab (c:=C91) (d:=B91) (by kernel_rfl) (by kernel_rfl) (qa5 C91 _ (by kernel_rfl)) h.k91
theorem rv27 (h:RefL K):RdL K 27 Tryd.f27 B27:=qab (c:=C27) (d:=B27) (by kernel_rfl) (by kernel_rfl) (qa5 C27 _ (by kernel_rfl)) h.k27
theorem rv51 (h:RefL K):RdL K 51 Tryd.f51 B51:=qab (c:=C51) (d:=B51) (by kernel_rfl) (by kernel_rfl) (qa5 C51 _ (by kernel_rfl)) h.k51
theorem rv29 (h:RefL K):RdL K 29 Tryd.f29 B29:=qab (c:=C29) (d:=B29) (by kernel_rfl) (by kernel_rfl) (qa5 C29 _ (by kernel_rfl)) h.k29
theorem rv9 (h:RefL K):RdL K 9 Tryd.f9 B9:=qab (c:=C9) (d:=B9) (by kernel_rfl) (by kernel_rfl) (qa5 C9 _ (by kernel_rfl)) h.k9
theorem rv11 (h:RefL K):RdL K 11 Tryd.f11 B11:=qab (c:=C11) (d:=B11) (by kernel_rfl) (by kernel_rfl) (qa5 C11 _ (by kernel_rfl)) h.k11
theorem rv34 (h:RefL K):RdL K 34 Tryd.f34 B34:=qab (c:=C34) (d:=B34) (by kernel_rfl) (by kernel_rfl) (qa5 C34 _ (by kernel_rfl)) h.k34
theorem rv10 (h:RefL K):RdL K 10 Tryd.f10 B10:=qab (c:=C10) (d:=B10) (by kernel_rfl) (by kernel_rfl) (qa5 C10 _ (by kernel_rfl)) h.k10
theorem rv14 (h:RefL K):RdL K 14 Tryd.f14 B14:=qab (c:=C14) (d:=B14) (by kernel_rfl) (by kernel_rfl) (qa5 C14 _ (by kernel_rfl)) h.k14
theorem rv36 (h:RefL K):RdL K 36 Tryd.f36 B36:=qab (c:=C36) (d:=B36) (by kernel_rfl) (by kernel_rfl) (qa5 C36 _ (by kernel_rfl)) h.k36
theorem rv15 (h:RefL K):RdL K 15 Tryd.f15 B15:=qab (c:=C15) (d:=B15) (by kernel_rfl) (by kernel_rfl) (qa5 C15 _ (by kernel_rfl)) h.k15
theorem rv12 (h:RefL K):RdL K 12 Tryd.f12 B12:=qab (c:=C12) (d:=B12) (by kernel_rfl) (by kernel_rfl) (qa5 C12 _ (by kernel_rfl)) h.k12
theorem rv85 (h:RefL K):RdL K 85 Tryd.f85 B85:=qab (c:=C85) (d:=B85) (by kernel_rfl) (by kernel_rfl) (qa5 C85 _ (by kernel_rfl)) h.k85
theorem rv3 (h:RefL K):RdL K 3 Tryd.f3 B3:=qab (c:=C3) (d:=B3) (by kernel_rfl) (by kernel_rfl) (qa5 C3 _ (by kernel_rfl)) h.k3
end
theorem big4:4<big:=by unfold big; decide
theorem qee (S:St):onS S=S.lg []:=rfl
theorem llg (S:St) (l k:List LE):(S.lg l).lg k=S.lg k:=rfl
structure Lx (S:St) (b:Nat) (s:Bs) (i:Nat) (vT vW:V):Prop where
 ex:∃t,AgAt S b 57 4 t/\t.get 0=some (sv s)/\t.get 1=some (.int .i64 (i:Int))/\t.get 2=some vT/\t.get 3=some vW
section
variable {K:FuncId->Option KF} {S:St} {b i:Nat} {s:Bs} {vT vW:V}
theorem Lx.s0 (ho:S.on=false) (h:Lx S b s i vT vW) (l:List LE):ld1 (.ptr b 0) (S.lg l)=some (sv s,S.lg (⟨b,0,1,false⟩::l)):=by
 obtain⟨t,h1,h2,_⟩:=h.ex;exact qbj ho (h1.ld1 ho big4 (by decide) h2) l
theorem Lx.i1 (ho:S.on=false) (h:Lx S b s i vT vW) (l:List LE):ld1 (.ptr b 1) (S.lg l)=some (.int .i64 (i:Int),S.lg (⟨b,1,2,false⟩::l)):=by
 obtain⟨t,h1,_,h2,_⟩:=h.ex;exact qbj ho (h1.ld1 ho big4 (by decide) h2) l
theorem Lx.grew {W:Nat->Prop} {U:St} (h:Lx S b s i vT vW) (hb:b<S.next) (hw:¬W b) (g:Grew W S U):Lx U b s i vT vW:=by
 obtain⟨t,h1,h2⟩:=h.ex;exact⟨t,h1.grew hb hw g,h2⟩
theorem qeo (hK:RefL K) (m:Nat) (ho:S.on=false) (h:Lx S b s i vT vW):(ev E0 K (m+1)).f 24 [.ptr b 0] S=some (.ret (.bool (decide (i<s.length))),S):=rv24 hK (by
 show F24 (ev E0 K m) qa3 (.ptr b 0) S=_;rw[F24_eq,show qa2 (.ptr b 0)=some (.ptr b 0)from rfl,oB,show faP 1 false 1 (.ptr b 0)=some (.ptr b 1)from rfl,oB,qee,h.i1 ho,oB];dsimp only;rw[oB,show faP 0 false 1 (.ptr b 0)=some (.ptr b 0)from rfl,oB,qee,llg,h.s0 ho,oB];dsimp only;rw[qee,llg,lnStr_sv,oB];dsimp only
 rw[qdz,oB,qcb (by rfl),qee,llg,qco ho])
theorem geqN (a b:Nat):qa4 E0 .geq 3 false false (.int .i64 (a:Int)) (.int .i64 (b:Int))=some (.bool (decide (b<=a))):=by
 rw[binV_ii,intsV_geq]
 congr 2
 simp
def begD (s t:Bs):Bool:=s.take t.length==t
theorem beg_lt {s t:Bs} (h:¬t.length<=s.length):begD s t=false:=by
 unfold begD;refine beq_eq_false_iff_ne.2 fun e=>h ?_;rw[<- e,List.length_take];omega
theorem beg_run (hK:RefL K) (m:Nat) (s t:Bs) (S:St):(ev E0 K (m+1)).f 60 [sv s,sv t] S=some (.ret (.bool (begD s t)),S):=rv60 hK (by
 show F60 (ev E0 K m) qa3 (sv s) (sv t) S=_;rw[F60_eq,lnStr_sv,oB];dsimp only;rw[lnStr_sv,oB];dsimp only;rw[geqN,oB];by_cases h:t.length<=s.length
 . rw[dT h]
   simp only[qaf,oB,cT,lnStr_sv];rw[qap qij s (qgf .i64 h) h,oB];simp only[oB];rw[eqStr,oB,pickV_bool,cT,oB,List.drop_zero,Nat.sub_zero];rfl
 . rw[dF h,beg_lt h]
   rfl)
theorem has_run (hK:RefL K) (m:Nat) (s t:Bs) (S:St):(ev E0 K (m+2)).f 38 [sv s,sv t] S=some (.ret (.bool (begD s t)),S):=rv38 hK (by
 show F38 (ev E0 K (m+1)) qa3 (sv s) (sv t) S=_
 rw[F38_eq,beg_run hK m,callP_ret])
theorem next_run (hK:RefL K) (m:Nat) (ho:S.on=false) (h:Lx S b s i vT vW) (hi:i<=s.length) (t:Bs):(ev E0 K (m+3)).f 44 [.ptr b 0,sv t] S=some (.ret (.bool (begD (s.drop i) t)),S):=rv44 hK (by
 show F44 (ev E0 K (m+2)) qa3 (.ptr b 0) (sv t) S=_;rw[F44_eq,show qa2 (.ptr b 0)=some (.ptr b 0)from rfl,oB,show faP 0 false 1 (.ptr b 0)=some (.ptr b 0)from rfl,oB,qee,h.s0 ho,oB];dsimp only;rw[oB,show faP 1 false 1 (.ptr b 0)=some (.ptr b 1)from rfl,oB,qee,llg,h.i1 ho,oB];dsimp only;rw[qee,llg,qap qij s (qdq .i64 hi) (lR _),oB];dsimp only
 rw[qee,llg,has_run hK m,qbs,qcb (by rfl),qee,llg,qco ho,List.take_of_length_le (by rw[List.length_drop]; omega)])
theorem addN {a c:Nat} (h:a+c<9223372036854775808):qa4 E0 .add 3 false false (.int .i64 (a:Int)) (.int .i64 (c:Int))=some (.int .i64 ((a+c:Nat):Int)):=by
 rw[binV_ii,intsV_add,qe6 (by omega) (by omega),Int.natCast_add]
theorem Lx.put (ho:S.on=false) (h:Lx S b s i vT vW) (j:Nat):∃U,stP 1 (.ptr b 1) (.int .i64 (j:Int)) S=some (.tuple [],U)/\Lx U b s j vT vW/\Grew (fun x=>x=b) S U/\U.next=S.next:=by
 obtain⟨t,h1,h2,h3,h4,h5⟩:=h.ex;obtain⟨U,k1,k2,k3,k4⟩:=h1.st1 ho big4 (by decide) (by decide:1<4) (.int .i64 (j:Int)) rfl rfl rfl;refine⟨U,k1,⟨_,k2,?_,?_,?_,?_⟩,k3,k4⟩<;>rw[Tr.get_set]
 . exact h2
 . rfl
 . exact h4
 . exact h5
theorem Lx.s0f (ho:S.on=false) (h:Lx S b s i vT vW):ld1 (.ptr b 0) S=some (sv s,S):=by
 obtain⟨t,h1,h2,_⟩:=h.ex;exact h1.ld1 ho big4 (by decide) h2
theorem Lx.i1f (ho:S.on=false) (h:Lx S b s i vT vW):ld1 (.ptr b 1) S=some (.int .i64 (i:Int),S):=by
 obtain⟨t,h1,_,h2,_⟩:=h.ex;exact h1.ld1 ho big4 (by decide) h2
theorem qbp (hK:RefL K) (m:Nat) (ho:S.on=false) (h:Lx S b s i vT vW) (hi:i<=s.length) {t:Bs} (ht:begD (s.drop i) t=false):(ev E0 K (m+4)).f 23 [.ptr b 0,sv t] S=some (.ret (.bool false),S):=rv23 hK (by
 show F23 (ev E0 K (m+3)) qa3 (.ptr b 0) (sv t) S=_;rw[F23_eq,next_run hK m ho h hi,callP_ret,ht]
 rfl)
theorem qba (hK:RefL K) (m:Nat) (ho:S.on=false) (h:Lx S b s i vT vW) (hi:i<=s.length) {t:Bs} (hl:i+t.length<9223372036854775808) (ht:begD (s.drop i) t=true) :
 ∃U,(ev E0 K (m+4)).f 23 [.ptr b 0,sv t] S=some (.ret (.bool true),U)/\Lx U b s (i+t.length) vT vW/\Grew (fun x=>x=b) S U/\U.next=S.next:=by
 obtain⟨U,k1,k2⟩:=h.put ho (i+t.length);refine⟨U,rv23 hK ?_,k2⟩;show F23 (ev E0 K (m+3)) qa3 (.ptr b 0) (sv t) S=_;rw[F23_eq,next_run hK m ho h hi,callP_ret,ht,show unV .not (.bool true)=some (.bool false)from rfl,oB,ifK_bool,cF,show qa2 (.ptr b 0)=some (.ptr b 0)from rfl,oB,show faP 1 false 1 (.ptr b 0)=some (.ptr b 1)from rfl,oB,h.i1f ho,oB];dsimp only;rw[lnStr_sv,oB];dsimp only;rw[addN hl,oB,oB,show faP 1 false 1 (.ptr b 0)=some (.ptr b 1)from rfl,oB,k1,oB]
def qb6 (c n:Nat):Tr V:=Tr.ofListFrom .nil [.int .i64 (c:Int),.int .i64 (n:Int)] 0
theorem build_52 (c n:Int):qa7 E0 52 [(0,.int .i64 c),(1,.int .i64 n)]=some (.agg 2 (Tr.ofListFrom .nil [.int .i64 c,.int .i64 n] 0)):=by kernel_rfl
theorem fail_run (hK:RefL K) (m:Nat) (ho:S.on=false) (c n:Nat):∃U,(ev E0 K (m+1)).f 25 [.int .i64 (c:Int),.int .i64 (n:Int)] S=some (.pan (.iface 51 (.ptr S.next 0)),U)/\AgAt U S.next 52 2 (qb6 c n)/\Grew (fun _=>False) S U/\U.next=S.next+1:=by
 obtain⟨a1,a2,a3⟩:=qar ho 52 2 (qb6 c n);refine⟨_,rv25 hK ?_,a1,a2,a3⟩;show F25 (ev E0 K m) qa3 (.int .i64 (c:Int)) (.int .i64 (n:Int)) S=_;rw[F25_eq,build_52,oB,show boxK 52 (.agg 2 (Tr.ofListFrom .nil [.int .i64 (c:Int),.int .i64 (n:Int)] 0)) S=some (.ptr S.next 0,(nwP 52 2 (qb6 c n) S).2)from rfl,oB];rfl
end
section
variable {K:FuncId->Option KF} {S:St} {b i:Nat} {s:Bs} {vT vW:V}
theorem nilK (b o:Nat):qa2 (.ptr b o)=some (.ptr b o):=rfl
theorem fap0 (b:Nat):faP 0 false 1 (.ptr b 0)=some (.ptr b 0):=rfl
theorem fap1 (b:Nat):faP 1 false 1 (.ptr b 0)=some (.ptr b 1):=rfl
theorem addC (k:Nat) {i:Nat} (h:i+k<9223372036854775808):qa4 E0 .add 3 false true (.int .i64 (i:Int)) (.int .i64 (k:Int))=some (.int .i64 ((i+k:Nat):Int)):=by
 rw[binV_ii,intsV_add,show((i:Int)+(k:Int))=((i+k:Nat):Int) by omega,qe6 (by omega) (by omega)]
theorem qb9 {s:Bs} {i:Nat} (h:i<s.length):s[i]=byt s i:=by
 unfold byt;rw[List.getD_eq_getElem?_getD,List.getElem?_eq_getElem h,Option.getD_some]
theorem esc_no (hK:RefL K) (m:Nat) (ho:S.on=false) (h:Lx S b s i vT vW) (hs:s.length<9223372036854775800) (hi:i<=s.length) (hl:s.length<=i+1) :
 ∃U,(ev E0 K (m+2)).f 72 [.ptr b 0] S=some (.pan (.iface 51 (.ptr S.next 0)),U)/\AgAt U S.next 52 2 (qb6 19 i)/\Grew (fun _=>False) S U/\U.next=S.next+1:=by
 obtain⟨U,k1,k2⟩:=fail_run hK m ho 19 i;refine⟨U,rv72 hK ?_,k2⟩;show F72 (ev E0 K (m+1)) qa3 (.ptr b 0) S=_;rw[F72_eq,nilK,oB,fap1,oB,qee,h.i1 ho,oB];dsimp only;rw[qb0 (by omega),oB,oB,fap0,oB,qee,llg,h.s0 ho,oB];dsimp only;rw[qee,llg,lnStr_sv,oB];dsimp only;rw[geqN,oB,dT hl,qcb (by rfl),qee,llg,qco ho,ifK_bool,cT,oB,fap1,oB,h.i1f ho,oB];dsimp only;rw[show(V.int .i64 19)=.int .i64 ((19:Nat):Int)from rfl,k1];rfl
theorem esc_yes (hK:RefL K) (m:Nat) (ho:S.on=false) (h:Lx S b s i vT vW) (hs:s.length<9223372036854775800) (hl:i+1<s.length) :
 ∃U,(ev E0 K (m+2)).f 72 [.ptr b 0] S=some (.ret (.int .u8 ((byt s (i+1)).toNat:Int)),U)/\Lx U b s (i+2) vT vW/\Grew (fun x=>x=b) S U/\U.next=S.next:=by
 obtain⟨U,k1,k2⟩:=h.put ho (i+2);refine⟨U,rv72 hK ?_,k2⟩;show F72 (ev E0 K (m+1)) qa3 (.ptr b 0) S=_;rw[F72_eq,nilK,oB,fap1,oB,qee,h.i1 ho,oB];dsimp only;rw[qb0 (by omega),oB,oB,fap0,oB,qee,llg,h.s0 ho,oB];dsimp only;rw[qee,llg,lnStr_sv,oB];dsimp only;rw[geqN,oB,dF (by omega),qcb (by rfl),qee,llg,qco ho,ifK_bool,cF];rw[R72_1_eq,nilK,oB,fap0,oB,qee,h.s0 ho,oB];dsimp only;rw[oB,fap1,oB,qee,llg,h.i1 ho,oB];dsimp only;rw[qb0 (by omega),oB,qbl _ _ _ hl,oB,qcb (by rfl),qee,llg,qco ho,oB,fap1,oB,h.i1f ho,oB];dsimp only;rw[show(V.int .i64 2)=.int .i64 ((2:Nat):Int)from rfl,addC 2 (by omega),oB,oB,fap1,oB,k1,oB,qb9 hl]
end
section
variable {K:FuncId->Option KF} {S:St}
theorem u8ge (c:UInt8) (k:Nat):qa4 E0 .geq 5 false true (.int .u8 (c.toNat:Int)) (.int .u8 (k:Int))=some (.bool (decide (k<=c.toNat))):=by
 rw[binV_ii,intsV_geq]
 congr 2
 simp
theorem u8le (c:UInt8) (k:Nat):qa4 E0 .leq 5 false true (.int .u8 (c.toNat:Int)) (.int .u8 (k:Int))=some (.bool (decide (c.toNat<=k))):=by
 rw[binV_ii,intsV_leq]
 congr 2
 simp
theorem u8eq (c:UInt8) (k:Nat):qa4 E0 .eql 5 false true (.int .u8 (c.toNat:Int)) (.int .u8 (k:Int))=some (.bool (decide (c.toNat=k))):=by
 rw[binV_ii,intsV_eql]
 congr 2
 simp;omega
theorem digD_nat (c:UInt8):digD c=(decide (48<=c.toNat)&&decide (c.toNat<=57)):=rfl
theorem letD_nat (c:UInt8):letD c=((decide (97<=c.toNat)&&decide (c.toNat<=122))||(decide (65<=c.toNat)&&decide (c.toNat<=90))||decide (c.toNat=95)):=by
 have:(c==95)=decide (c.toNat=95):=by
  rw[Bool.eq_iff_iff,beq_iff_eq,decide_eq_true_iff,<- UInt8.toNat_inj];rfl
 unfold letD;rw[this];rfl
theorem dig_run (hK:RefL K) (m:Nat) (c:UInt8) (S:St):(ev E0 K (m+1)).f 101 [.int .u8 (c.toNat:Int)] S=some (.ret (.bool (digD c)),S):=rv101 hK (by
 show F101 (ev E0 K m) qa3 (.int .u8 (c.toNat:Int)) S=_;rw[F101_eq,digD_nat,show V.int .u8 48=.int .u8 ((48:Nat):Int)from rfl,show V.int .u8 57=.int .u8 ((57:Nat):Int)from rfl,u8ge,oB];cases decide (48<=c.toNat)with
 | true=>simp only[oB,qaw,qaf,cT,cF,pickV_bool,Bool.true_and,u8le]
 | false=>rfl)
theorem let_run (hK:RefL K) (m:Nat) (c:UInt8) (S:St):(ev E0 K (m+1)).f 100 [.int .u8 (c.toNat:Int)] S=some (.ret (.bool (letD c)),S):=rv100 hK (by
 show F100 (ev E0 K m) qa3 (.int .u8 (c.toNat:Int)) S=_;rw[F100_eq,letD_nat,show V.int .u8 97=.int .u8 ((97:Nat):Int)from rfl,show V.int .u8 122=.int .u8 ((122:Nat):Int)from rfl,show V.int .u8 65=.int .u8 ((65:Nat):Int)from rfl,show V.int .u8 90=.int .u8 ((90:Nat):Int)from rfl,show V.int .u8 95=.int .u8 ((95:Nat):Int)from rfl,u8ge,oB];have h1:=u8le c 122;have h2:=u8ge c 65;have h3:=u8le c 90;have h4:=u8eq c 95;generalize decide (c.toNat<=122)=q1 at h1 ⊢;generalize decide (65<=c.toNat)=q2 at h2 ⊢;generalize decide (c.toNat<=90)=q3 at h3 ⊢;generalize decide (c.toNat=95)=q4 at h4 ⊢;generalize decide (97<=c.toNat)=q0
 cases q0<;>cases q1<;>cases q2<;>cases q3<;>cases q4<;>simp only[oB,qaw,qaf,qay,nF,Bool.not_true,cT,cF,pickV_bool,h1,h2,h3,h4]<;>rfl)
theorem qfh (hK:RefL K) (m:Nat) (w:Nat) (S:St):(ev E0 K (m+1)).f 68 [.int .i64 (w:Int)] S=some (.ret (.bool (inD w)),S):=rv68 hK (by
 show F68 (ev E0 K m) qa3 (.int .i64 (w:Int)) S=_
 have e0:qa4 E0 .neq 96 false true (.int .i64 (w:Int)) (.int .i64 0)=some (.bool (w != 0)):=by
  rw[binV_ii,intsV_neq]
  congr 2
  rw[Bool.eq_iff_iff];simp
 have e3:qa4 E0 .neq 96 false true (.int .i64 (w:Int)) (.int .i64 3)=some (.bool (w != 3)):=by
  rw[binV_ii,intsV_neq]
  congr 2
  rw[Bool.eq_iff_iff];simp;omega
 rw[F68_eq,e0,oB,inD];cases w != 0 with
 | true=>simp only[oB,qaf,cT,pickV_bool,Bool.true_and,e3]
 | false=>rfl)
end
section
variable {S:St}
theorem ext97:E0.ext.get 97=some 1:=by kernel_rfl
theorem call97 (self:EV) (s:List UInt8) (c:UInt8) (S:St):qcg E0 self (.fn (.func 97) [] []) [sv s,.int .u8 (c.toNat:Int)] S=some (.ret (.int .i64 (ixB s c)),S):=by
 have h:=callK_ext (E:=E0) (self:=self) ext97 [] [] [sv s,.int .u8 (c.toNat:Int)] S;have h2:=ext_ixB s c S;rw[List.nil_append,List.append_nil,h2]at h;exact h
theorem F87_of (self:EV) (N:Nat) (s:V) (c:UInt8) (S:St) (v:V) (h:qcg E0 self (.fn (.func 97) [] []) [s,.int .u8 (c.toNat:Int)] S=some (.ret v,S)):F87 self N s (.int .u8 (c.toNat:Int)) S=some (.ret v,S):=by
 rw[F87_eq,h,callP_ret]
theorem F87_spec (self:EV) (N:Nat) (s:List UInt8) (c:UInt8) (S:St):F87 self N (sv s) (.int .u8 (c.toNat:Int)) S=some (.ret (.int .i64 (ixB s c)),S):=
 F87_of self N (sv s) c S (.int .i64 (ixB s c)) (call97 self s c S)
theorem ix_run {K:FuncId->Option KF} (hK:RefL K) (m:Nat) (s:Bs) (c:UInt8) (S:St):(ev E0 K (m+2)).f 73 [sv s,.int .u8 (c.toNat:Int)] S=some (.ret (.int .i64 (ixB s c)),S):=rv73 hK (by
 show F73 (ev E0 K (m+1)) qa3 (sv s) (.int .u8 (c.toNat:Int)) S=_
 rw[F73_eq,rv87 hK (F87_spec (ev E0 K m) qa3 s c S),callP_ret])
end
section
variable {K:FuncId->Option KF} {S:St}
theorem ixB_has (l:Bs) (c:UInt8):decide ((0:Int)<=ixB l c)=l.contains c:=by
 unfold ixB;rw[List.contains_eq_any_beq,Bool.eq_iff_iff,List.any_eq_true];cases h:l.findIdx? (fun x=>x==c)with
 | none=>
  rw[List.findIdx?_eq_none_iff]at h;simp only[decide_eq_true_iff];constructor
  . intro h0; omega
  . rintro ⟨x,hx,hc⟩
    have:=h x hx;rw[beq_iff_eq]at hc;subst hc;simp at this
 | some j=>
  simp only[decide_eq_true_iff];constructor
  . intro _
    obtain⟨hj,h1,_⟩:=List.findIdx?_eq_some_iff_getElem.1 h;exact⟨l[j],List.getElem_mem hj,by rw[beq_iff_eq]at h1 ⊢; exact h1.symm⟩
  . intro _; omega
theorem w_eq (w k:Nat):qa4 E0 .eql 96 false true (.int .i64 (w:Int)) (.int .i64 (k:Int))=some (.bool (decide (w=k))):=by
 rw[binV_ii,intsV_eql]
 congr 2
 simp;omega
theorem ends_run (hK:RefL K) (m:Nat) (w:Nat) (c:UInt8) (S:St):(ev E0 K (m+3)).f 71 [.int .i64 (w:Int),.int .u8 (c.toNat:Int)] S=some (.ret (.bool (qi1 w c)),S):=rv71 hK (by
 show F71 (ev E0 K (m+2)) qa3 (.int .i64 (w:Int)) (.int .u8 (c.toNat:Int)) S=_
 have hb:∀k:UInt8,decide (c.toNat=k.toNat)=(c==k):=fun k=>by
  rw[Bool.eq_iff_iff,beq_iff_eq,decide_eq_true_iff,<- UInt8.toNat_inj]
 rw[F71_eq,show(V.int .i64 0)=.int .i64 ((0:Nat):Int)from rfl,show(V.int .i64 1)=.int .i64 ((1:Nat):Int)from rfl,show(V.int .i64 2)=.int .i64 ((2:Nat):Int)from rfl,show(V.int .u8 34)=.int .u8 ((34:Nat):Int)from rfl,show(V.int .u8 125)=.int .u8 ((125:Nat):Int)from rfl,w_eq,oB];unfold qi1;by_cases h0:w=0
 . rw[dT h0,iP h0,ifK_bool,cT,ix_run hK m,callP_ret,binV_ii,intsV_geq,oB,<- ixB_has]
   rfl
 . rw[dF h0,iN h0,ifK_bool,cF,w_eq,oB]
   by_cases h1:w=1
   . rw[dT h1,iP h1,ifK_bool,cT,u8eq,oB,<- hb 34]
     rfl
   . rw[dF h1,iN h1,ifK_bool,cF,w_eq,oB]
     by_cases h2:w=2
     . rw[dT h2,iP h2,ifK_bool,cT]
     . rw[dF h2,iN h2,ifK_bool,cF,u8eq,oB,<- hb 125]
       rfl)
end
section
variable {K:FuncId->Option KF} {S:St} {b i:Nat} {s:Bs} {vT vW:V}
theorem Lx.r0 (ho:S.on=false) (h:Lx S b s i vT vW) (k:V×St->Rs):((qa2 (.ptr b 0)).bind fun t=>(faP 0 false 1 t).bind fun u=>(ld1 u S).bind k)=k (sv s,S):=by
 rw[nilK,oB,fap0,oB,h.s0f ho,oB]
theorem Lx.r1 (ho:S.on=false) (h:Lx S b s i vT vW) (k:V×St->Rs):((qa2 (.ptr b 0)).bind fun t=>(faP 1 false 1 t).bind fun u=>(ld1 u S).bind k)=k (.int .i64 (i:Int),S):=by
 rw[nilK,oB,fap1,oB,h.i1f ho,oB]
theorem Lx.l0 (ho:S.on=false) (h:Lx S b s i vT vW) (l:List LE) (k:V×St->Rs):((qa2 (.ptr b 0)).bind fun t=>(faP 0 false 1 t).bind fun u=>(ld1 u (onS (S.lg l))).bind k)=k (sv s,S.lg [⟨b,0,1,false⟩]):=by
 rw[nilK,oB,fap0,oB,qee,llg,h.s0 ho,oB]
theorem Lx.l1 (ho:S.on=false) (h:Lx S b s i vT vW) (l:List LE) (k:V×St->Rs):((qa2 (.ptr b 0)).bind fun t=>(faP 1 false 1 t).bind fun u=>(ld1 u (onS (S.lg l))).bind k)=k (.int .i64 (i:Int),S.lg [⟨b,1,2,false⟩]):=by
 rw[nilK,oB,fap1,oB,qee,llg,h.i1 ho,oB]
theorem Lx.o0 (ho:S.on=false) (h:Lx S b s i vT vW) (k:V×St->Rs):((qa2 (.ptr b 0)).bind fun t=>(faP 0 false 1 t).bind fun u=>(ld1 u (onS S)).bind k)=k (sv s,S.lg [⟨b,0,1,false⟩]):=by
 rw[nilK,oB,fap0,oB,qee,h.s0 ho,oB]
theorem Lx.o1 (ho:S.on=false) (h:Lx S b s i vT vW) (k:V×St->Rs):((qa2 (.ptr b 0)).bind fun t=>(faP 1 false 1 t).bind fun u=>(ld1 u (onS S)).bind k)=k (.int .i64 (i:Int),S.lg [⟨b,1,2,false⟩]):=by
 rw[nilK,oB,fap1,oB,qee,h.i1 ho,oB]
theorem Lx.set (ho:S.on=false) (h:Lx S b s i vT vW) (j:Nat):∃U,(∀k:V×St->Rs,((qa2 (.ptr b 0)).bind fun t=>(faP 1 false 1 t).bind fun u=>(stP 1 u (.int .i64 (j:Int)) S).bind k)=k (.tuple [],U))/\Lx U b s j vT vW/\Grew (fun x=>x=b) S U/\U.next=S.next/\U.on=false:=by
 obtain⟨U,k1,k2,k3,k4⟩:=h.put ho j;refine⟨U,fun k=>?_,k2,k3,k4,k3.on.trans ho⟩;rw[nilK,oB,fap1,oB,k1,oB]
theorem Lx.bump (ho:S.on=false) (h:Lx S b s i vT vW) (c:Nat) (hc:i+c<9223372036854775808):∃U,(∀k:V×St->Rs,((qa2 (.ptr b 0)).bind fun t=>(faP 1 false 1 t).bind fun u=>(ld1 u S).bind fun p=>(qa4 E0 .add 3 false true p.1 (.int .i64 (c:Int))).bind fun x=>(qa2 (.ptr b 0)).bind fun t=>(faP 1 false 1 t).bind fun u=>(stP 1 u x p.2).bind k)=k (.tuple [],U))/\Lx U b s (i+c) vT vW/\Grew (fun x=>x=b) S U/\U.next=S.next/\U.on=false:=by
 obtain⟨U,k1,k2⟩:=h.set ho (i+c);refine⟨U,fun k=>?_,k2⟩;rw[h.r1 ho];dsimp only;rw[addC c hc,oB,k1]
theorem Lx.bumpV (ho:S.on=false) (h:Lx S b s i vT vW) (c:Nat) (hc:i+c<9223372036854775808):∃U,(∀k:V×St->Rs,((qa2 (.ptr b 0)).bind fun t=>(faP 1 false 1 t).bind fun u=>(ld1 u S).bind fun p=>(qa4 E0 .add 3 false false p.1 (.int .i64 (c:Int))).bind fun x=>(qa2 (.ptr b 0)).bind fun t=>(faP 1 false 1 t).bind fun u=>(stP 1 u x p.2).bind k)=k (.tuple [],U))/\Lx U b s (i+c) vT vW/\Grew (fun x=>x=b) S U/\U.next=S.next/\U.on=false:=by
 obtain⟨U,k1,k2⟩:=h.set ho (i+c);refine⟨U,fun k=>?_,k2⟩;rw[h.r1 ho];dsimp only;rw[addN hc,oB,k1]
theorem namD_ge:∀(l:Bs) (n:Nat),n<=namD l n/\namD l n<=n+l.length
 | [],n=>⟨lR _,lR _⟩
 | c::l,n=>by
  unfold namD;split
  . have:=namD_ge l (n+1)
    rw[List.length_cons]; omega
  . rw[List.length_cons]; omega
theorem qgs (s m:Bs):qcw s m<=s.length:=by
 unfold qcw;split
 . cases s with
   | nil=>exact lR _
   | cons c l=>simp only[List.length_cons]; split<;>omega
 . have:=(namD_ge s 0).2; omega
theorem gtr0 (n:Nat):qa4 E0 .gtr 3 false true (.int .i64 (n:Int)) (.int .i64 0)=some (.bool (decide (0<n))):=by
 rw[binV_ii,intsV_gtr]
 congr 2
 simp
theorem eql0 (n:Nat):qa4 E0 .eql 3 false true (.int .i64 (n:Int)) (.int .i64 0)=some (.bool (decide (n=0))):=by
 rw[binV_ii,intsV_eql]
 congr 2
 simp
theorem L90_spec (hK:RefL K) (m:Nat) (nk:Ac->St->Rs) (ek:Nat->Ac->St->Rs) (v0 v1:V) (t:Bs) (ht:t.length<9223372036854775000) :
 ∀(l:Bs) (n q:Nat),t.drop n=l->l.length<q->L90_59 (ev E0 K (m+1)) qa3 nk ek q v0 v1 (sv t) (.int .i64 (n:Int)) S=ek 0 (fr 67 [(0,v0),(1,v1),(5,sv t),(6,.int .i64 (namD l n:Int))]) S
 | _,_,0,_,hq=>by omega
 | [],n,q+1,hl,hq=>by
  rw[L90_59_eq,lnStr_sv,oB];dsimp only;rw[qdz,oB,dF (by have:=qc4 hl; omega)];rfl
 | c::l,n,q+1,hl,hq=>by
  obtain⟨hlt,hc,hr,_⟩:=qcy hl;have ih:=L90_spec hK m nk ek v0 v1 t ht l (n+1) q hr (by rw[List.length_cons]at hq; omega);rw[L90_59_eq,lnStr_sv,oB];dsimp only;rw[qdz,oB,dT hlt];simp only[qaf,oB,cT,qbl t .i64 n hlt,hc];rw[let_run hK m c,callP_ret];unfold namD;cases hL:letD c with
  | true=>
   simp only[qaf,qaw,qay,oB,cT,cF,Bool.not_true,Bool.true_or,↓reduceIte,callP_ret,pickV_bool,ifK_bool];rw[qb0 (by omega),oB,ih]
  | false=>
   simp only[qaf,qaw,qay,oB,cT,cF,nF,Bool.false_or];rw[gtr0,oB];by_cases h0:0<n
   . rw[dT h0]
     try simp only[qaf,qaw,qay,oB,cT,cF,nF,Bool.true_and]
     rw[qbl t .i64 n hlt,hc,oB]
     try simp only[qaf,qaw,qay,oB,cT,cF,nF,Bool.true_and]
     rw[dig_run hK m c,callP_ret]
     try simp only[qaf,qaw,qay,oB,cT,cF,nF,Bool.true_and,pickV_bool,ifK_bool]
     cases hD:digD c with
     | true=>rw[cT,iP rfl,qb0 (by omega),oB,ih]
     | false=>rw[cF,iN (by simp)]
   . rw[dF h0]
     try simp only[qaf,qaw,qay,oB,cT,cF,nF,Bool.false_and,callP_ret,pickV_bool,ifK_bool,Bool.false_eq_true,↓reduceIte]
theorem ixB_neg (l:Bs) (c:UInt8):qa4 E0 .geq 3 false true (.int .i64 (ixB l c)) (.int .i64 0)=some (.bool (l.contains c)):=by
 rw[binV_ii,intsV_geq,<- ixB_has]
theorem qn3 (hK:RefL K) (m:Nat) (ho:S.on=false) (h:Lx S b s i vT vW) (hi:i<=s.length) (hs:s.length<9223372036854770000) (mk:Bs) :
 ∃U,(ev E0 K (m+3)).f 90 [.ptr b 0,sv mk] S=some (.ret (sv ((s.drop i).take (qcw (s.drop i) mk))),U)/\Lx U b s (i+qcw (s.drop i) mk) vT vW/\Grew (fun x=>x=b) S U/\U.next=S.next/\U.on=false:=by
 have hlen:(s.drop i).length=s.length-i:=List.length_drop;have hple:=qgs (s.drop i) mk;obtain⟨U,k1,k2⟩:=h.set ho (i+qcw (s.drop i) mk);refine⟨U,rv90 hK ?_,k2⟩;show F90 (ev E0 K (m+2)) qa3 (.ptr b 0) (sv mk) S=_;rw[F90_eq,h.o0 ho];dsimp only;rw[h.l1 ho];dsimp only;rw[qee,llg,qap qij s (qdq .i64 hi) (lR _),oB];dsimp only;rw[qcb (by rfl),qee,llg,qco ho,List.take_of_length_le (by rw[List.length_drop]; omega),show V.int .i64 0=.int .i64 ((0:Nat):Int)from rfl,L90_spec hK (m+1) _ _ _ _ (s.drop i) (by omega) (s.drop i) 0 qa3 rfl (by unfold qa3; omega),exB_same,R90_13_eq,eql0,oB]
 have fin:∀x:Bool,((qa2 (.ptr b 0)).bind fun t=>(faP 1 false 1 t).bind fun u=>(ld1 u S).bind fun p=>(qa4 E0 .add 3 false x p.1 (.int .i64 (qcw (s.drop i) mk:Int))).bind fun x=>(qa2 (.ptr b 0)).bind fun t=>(faP 1 false 1 t).bind fun u=>(stP 1 u x p.2).bind fun p=>(qah E0 9 (sv (s.drop i)) none (some (.int .i64 (qcw (s.drop i) mk:Int))) none p.2).bind fun p57=>some (En.ret p57.1,p57.2))=some (.ret (sv ((s.drop i).take (qcw (s.drop i) mk))),U):=fun x=>by
  rw[h.r1 ho];dsimp only
  rw[show qa4 E0 .add 3 false x (.int .i64 (i:Int)) (.int .i64 (qcw (s.drop i) mk:Int))=some (.int .i64 ((i+qcw (s.drop i) mk:Nat):Int)) by
   rw[binV_ii,intsV_add,show((i:Int)+(qcw (s.drop i) mk:Int))=((i+qcw (s.drop i) mk:Nat):Int) by omega,qe6 (by omega) (by omega)],oB,k1]
  dsimp only;rw[qap qij _ (qgf .i64 hple) hple,oB,List.drop_zero,Nat.sub_zero]
 have f1:=fin false;by_cases h0:namD (s.drop i) 0=0
 . have hp:qcw (s.drop i) mk=match s.drop i with
    | []=>0
    | c::_=>if digD c||mk.contains c then 1 else 0:=by
    unfold qcw;rw[iP h0];rfl
   rw[dT h0,h0];simp only[qaf,qaw,qay,oB,cT,cF];cases hd:s.drop i with
   | nil=>
    rw[hd]at hp f1;rw[show qa4 E0 .neq 9 false true (sv []) (sv [])=some (.bool false)from neStr _ _ _ _,oB]
    try simp only[qaf,qaw,qay,oB,cT,cF,callP_ret,pickV_bool,ifK_bool,Bool.not_true,nF]
    rw[hp]at f1 ⊢;exact f1
   | cons c l=>
    rw[hd]at hp f1;have hp:qcw (c::l) mk=if digD c||mk.contains c then 1 else 0:=hp
    rw[show qa4 E0 .neq 9 false true (sv (c::l)) (sv [])=some (.bool true)from neStr _ _ _ _,oB]
    try simp only[qaf,qaw,qay,oB,cT,cF,callP_ret,pickV_bool,ifK_bool,Bool.not_true,nF]
    rw[show ixS (sv (c::l)) (.int .i64 0)=some (.int .u8 (c.toNat:Int))from qbl (c::l) .i64 0 (by simp),oB]
    try simp only[qaf,qaw,qay,oB,cT,cF]
    rw[dig_run hK (m+1) c,callP_ret]
    try simp only[qaf,qaw,qay,oB,cT,cF]
    have f2:=fin true;rw[hd]at f2;cases hD:digD c with
    | true=>
     rw[hD]at hp;simp only[Bool.true_or,↓reduceIte]at hp
     try simp only[qaf,qaw,qay,oB,cT,cF,callP_ret,pickV_bool,ifK_bool,Bool.not_true,nF]
     rw[hp]at f1 ⊢;exact f1
    | false=>
     rw[hD]at hp;simp only[Bool.false_or]at hp
     try simp only[qaf,qaw,qay,oB,cT,cF,callP_ret,pickV_bool,ifK_bool,Bool.not_true,nF]
     rw[show ixS (sv (c::l)) (.int .i64 0)=some (.int .u8 (c.toNat:Int))from qbl (c::l) .i64 0 (by simp),oB]
     try simp only[qaf,qaw,qay,oB,cT,cF]
     rw[ix_run hK m,callP_ret]
     try simp only[qaf,qaw,qay,oB,cT,cF]
     rw[ixB_neg,oB];cases hM:mk.contains c with
     | true=>
      rw[hM]at hp;simp only[↓reduceIte]at hp
      try simp only[qaf,qaw,qay,oB,cT,cF,callP_ret,pickV_bool,ifK_bool,Bool.not_true,nF]
      rw[hp]at f1 ⊢;exact f1
     | false=>
      rw[hM]at hp;simp only[Bool.false_eq_true,↓reduceIte]at hp
      try simp only[qaf,qaw,qay,oB,cT,cF,callP_ret,pickV_bool,ifK_bool,Bool.not_true,nF]
      rw[hp]at f1 ⊢;exact f1
 . have hp:qcw (s.drop i) mk=namD (s.drop i) 0:=by
    unfold qcw;rw[iN h0]
   rw[dF h0];simp only[qaf,qaw,qay,oB,cT,cF,callP_ret,pickV_bool,ifK_bool,Bool.not_true,nF];rw[<- hp];exact f1
end
def Bad (W:Nat->Prop) (S:St) (r:Rs) (c n:Nat):Prop:=∃U x,r=some (.pan (.iface 51 (.ptr x 0)),U)/\AgAt U x 52 2 (qb6 c n)/\S.next<=x/\x<U.next/\Grew W S U
section
variable {K:FuncId->Option KF} {S T:St} {b i:Nat} {s:Bs} {vT vW:V} {W V':Nat->Prop} {r:Rs} {c n:Nat}
theorem Bad.callP (h:Bad W S r c n) (k:V->St->Rs):Bad W S (callP r k) c n:=by
 obtain⟨U,x,rfl,h2⟩:=h;exact⟨U,x,rfl,h2⟩
theorem Bad.mono (h:Bad W S r c n) (hW:∀x,W x->V' x):Bad V' S r c n:=by
 obtain⟨U,x,h1,h2,h3,h4,h5⟩:=h;exact⟨U,x,h1,h2,h3,h4,h5.mono fun x _ hx=>hW x hx⟩
theorem Bad.after (g:Grew W S T) (h:Bad W T r c n):Bad W S r c n:=by
 obtain⟨U,x,h1,h2,h3,h4,h5⟩:=h;exact⟨U,x,h1,h2,Nat.le_trans g.next h3,h4,g.trans h5⟩
theorem qcf (hK:RefL K) (m:Nat) (ho:S.on=false) (c n:Nat):Bad (fun _=>False) S ((ev E0 K (m+1)).f 25 [.int .i64 (c:Int),.int .i64 (n:Int)] S) c n:=by
 obtain⟨U,k1,k2,k3,k4⟩:=fail_run hK m ho c n;exact⟨U,S.next,k1,k2,lR _,by omega,k3⟩
theorem qd9 (c k:UInt8):qa4 E0 .eql 5 false true (.int .u8 (c.toNat:Int)) (.int .u8 (k.toNat:Int))=some (.bool (decide (c=k))):=by
 rw[u8eq]
 congr 2
 rw[decide_eq_decide,<- UInt8.toNat_inj]
theorem ixB_idx (s:Bs) (i:Nat) (c:UInt8):ixB (s.drop i) c=match qim s i c with
 | none=>-1
 | some k=>((k-i:Nat):Int):=by
 unfold ixB qim;cases(s.drop i).findIdx? (fun x=>x==c)with
 | none=>rfl
 | some j=>simp
theorem qdu {s:Bs} {i k:Nat} {c:UInt8} (h:qim s i c=some k):i<=k/\k<s.length:=by
 unfold qim at h;cases hf:(s.drop i).findIdx? (fun x=>x==c)with
 | none=>rw[hf]at h; cases h
 | some j=>
  rw[hf]at h;obtain⟨hj,_⟩:=List.findIdx?_eq_some_iff_getElem.1 hf;rw[List.length_drop]at hj;simp at h;omega
theorem lt0 (z:Int):qa4 E0 .lss 3 false true (.int .i64 z) (.int .i64 0)=some (.bool (decide (z<0))):=by
 rw[binV_ii,intsV_lss]
theorem subC (k:Nat) {i:Nat} (hk:k<=i) (h:i<9223372036854775808):qa4 E0 .sub 3 false true (.int .i64 (i:Int)) (.int .i64 (k:Int))=some (.int .i64 ((i-k:Nat):Int)):=by
 rw[binV_ii,intsV_sub,show((i:Int)-(k:Int))=((i-k:Nat):Int) by omega,qe6 (by omega) (by omega)]
theorem qbn {s:Bs} {i:Nat} (h:i<s.length) (c:UInt8):atD s i [c]=decide (byt s i=c):=by
 unfold atD;rw[List.drop_eq_getElem_cons h,qb9 h];show([byt s i]==[c])=_;rw[Bool.eq_iff_iff,beq_iff_eq,decide_eq_true_iff,List.cons.injEq];simp
theorem atD_len {s:Bs} {i:Nat} {t:Bs} (h:atD s i t=true):i<=s.length->i+t.length<=s.length:=by
 intro hi;unfold atD at h;rw[beq_iff_eq]at h;have:=congrArg List.length h;rw[List.length_take,List.length_drop]at this;omega
abbrev CloR (o:Option Nat) (S:St) (b i:Nat) (s:Bs) (vT vW:V) (r:Rs) (frm:Nat):Prop:=match o with
 | some j=>i<j/\j<=s.length/\∃U,r=some (.ret (.tuple []),U)/\Lx U b s j vT vW/\Grew (fun x=>x=b) S U/\U.next=S.next/\U.on=false
 | none=>Bad (fun x=>x=b) S r 19 frm
def CloOk (K:FuncId->Option KF) (n:Nat):Prop:=∀(d q:Nat) (S:St) (b i deep frm:Nat) (s:Bs) (vT vW:V) (nk:Ac->St->Rs) (ek:Nat->Ac->St->Rs),S.on=false->b<S.next->Lx S b s i vT vW->s.length<9223372036854770000->i<=s.length+1->0<deep->deep+n<9223372036854775000->n+8<=d->n<q->s.length+1<=n+i->
 (∀T,T.on=false->Bad (fun _=>False) T (ek 0 (fr 77 [(1,.int .i64 (frm:Int))]) T) 19 frm)->
 CloR (qgj n s i deep) S b i s vT vW (qko (ev E0 K d) qa3 nk ek q (.ptr b 0) (.int .i64 (frm:Int)) (.int .i64 (deep:Int)) S) frm
def QuoOk (K:FuncId->Option KF) (n:Nat):Prop:=∀(d q:Nat) (S:St) (b i frm:Nat) (s:Bs) (vT vW:V) (nk:Ac->St->Rs) (ek:Nat->Ac->St->Rs),S.on=false->b<S.next->Lx S b s i vT vW->s.length<9223372036854770000->i<=s.length+1->n<9223372036854770000->n+8<=d->n<q->s.length+1<=n+i->
 (∀T,T.on=false->Bad (fun _=>False) T (ek 0 (fr 34 [(1,.int .i64 (frm:Int))]) T) 19 frm)->
 CloR (qkx n s i) S b i s vT vW (L98_3 (ev E0 K d) qa3 nk ek q (.ptr b 0) (.int .i64 (frm:Int)) S) frm
theorem bad0 (h:Bad (fun _=>False) S r c n):Bad W S r c n:=h.mono fun _ h=>h.elim
theorem clo_call (hK:RefL K) {n:Nat} (hC:CloOk K n) (d:Nat) (S:St) (b i frm:Nat) (s:Bs) (vT vW:V) (ho:S.on=false) (hb:b<S.next) (h:Lx S b s i vT vW) (hs:s.length<9223372036854770000) (hi:i<=s.length+1) (hn:n<9223372036854770000) (hd:n+8<=d) (hr:n<qa3) (hf:s.length+1<=n+i) :
 CloR (qgj n s i 1) S b i s vT vW ((ev E0 K (d+1)).f 88 [.ptr b 0,.int .i64 (frm:Int)] S) frm:=by
 obtain⟨d',rfl⟩:∃d',d=d'+1:=⟨d-1,by omega⟩
 have hek:∀T:St,T.on=false->Bad (fun _=>False) T (exB 0 (R88_0 (ev E0 K (d'+1)) qa3 (qbt E0 (ev E0 K (d'+1)) Tryd.f88) qas) qas 0 (fr 77 [(1,.int .i64 (frm:Int))]) T) 19 frm:=fun T hT=>by
  rw[exB_same,R88_0_eq];exact(qcf hK d' hT 19 frm).callP _
 have:=hC (d'+1) qa3 S b i 1 frm s vT vW (R88_0 (ev E0 K (d'+1)) qa3 (qbt E0 (ev E0 K (d'+1)) Tryd.f88) qas) (exB 0 (R88_0 (ev E0 K (d'+1)) qa3 (qbt E0 (ev E0 K (d'+1)) Tryd.f88) qas) qas) ho hb h hs hi (by omega) (by omega) hd hr hf hek;have e:∀r,F88 (ev E0 K (d'+1)) qa3 (.ptr b 0) (.int .i64 (frm:Int)) S=some r->(ev E0 K (d'+1+1)).f 88 [.ptr b 0,.int .i64 (frm:Int)] S=some r:=fun r hr=>rv88 hK hr;have e2:=F88_eq (ev E0 K (d'+1)) qa3 (.ptr b 0) (.int .i64 (frm:Int)) S;cases hc:qgj n s i 1 with
 | some j=>
  rw[hc]at this;obtain⟨h1,h2,U,h3,h4⟩:=this;exact⟨h1,h2,U,e _ (e2.trans h3),h4⟩
 | none=>
  rw[hc]at this;obtain⟨U,x,h1,h2⟩:=this;exact⟨U,x,e _ (e2.trans h1),h2⟩
theorem quo_call (hK:RefL K) {n:Nat} (hC:QuoOk K n) (d:Nat) (S:St) (b i frm:Nat) (s:Bs) (vT vW:V) (ho:S.on=false) (hb:b<S.next) (h:Lx S b s i vT vW) (hs:s.length<9223372036854770000) (hi:i<=s.length+1) (hn:n<9223372036854770000) (hd:n+8<=d) (hr:n<qa3) (hf:s.length+1<=n+i) :
 CloR (qkx n s i) S b i s vT vW ((ev E0 K (d+1)).f 98 [.ptr b 0,.int .i64 (frm:Int)] S) frm:=by
 obtain⟨d',rfl⟩:∃d',d=d'+1:=⟨d-1,by omega⟩
 have hek:∀T:St,T.on=false->Bad (fun _=>False) T (exB 0 (R98_0 (ev E0 K (d'+1)) qa3 (qbt E0 (ev E0 K (d'+1)) Tryd.f98) qas) qas 0 (fr 34 [(1,.int .i64 (frm:Int))]) T) 19 frm:=fun T hT=>by
  rw[exB_same,R98_0_eq];exact(qcf hK d' hT 19 frm).callP _
 have:=hC (d'+1) qa3 S b i frm s vT vW (R98_0 (ev E0 K (d'+1)) qa3 (qbt E0 (ev E0 K (d'+1)) Tryd.f98) qas) (exB 0 (R98_0 (ev E0 K (d'+1)) qa3 (qbt E0 (ev E0 K (d'+1)) Tryd.f98) qas) qas) ho hb h hs hi hn hd hr hf hek;have e:∀r,F98 (ev E0 K (d'+1)) qa3 (.ptr b 0) (.int .i64 (frm:Int)) S=some r->(ev E0 K (d'+1+1)).f 98 [.ptr b 0,.int .i64 (frm:Int)] S=some r:=fun r hr=>rv98 hK hr;have e2:=F98_eq (ev E0 K (d'+1)) qa3 (.ptr b 0) (.int .i64 (frm:Int)) S;cases hc:qkx n s i with
 | some j=>
  rw[hc]at this;obtain⟨h1,h2,U,h3,h4⟩:=this;exact⟨h1,h2,U,e _ (e2.trans h3),h4⟩
 | none=>
  rw[hc]at this;obtain⟨U,x,h1,h2⟩:=this;exact⟨U,x,e _ (e2.trans h1),h2⟩
theorem fwd {o:Option Nat} {b i i':Nat} {s:Bs} {vT vW:V} {S T:St} {r r':Rs} {frm:Nat} (he:r=r') (g:Grew (fun x=>x=b) S T) (hn:T.next=S.next) (hi:i<=i') (h:CloR o T b i' s vT vW r' frm):CloR o S b i s vT vW r frm:=by
 subst he;cases o with
 | some j=>
  obtain⟨h1,h2,U,h3,h4,h5,h6,h7⟩:=h;exact⟨by omega,h2,U,h3,h4,g.trans h5,h6.trans hn,h7⟩
 | none=>exact Bad.after g h
theorem clo_step (hK:RefL K) {n:Nat} (hC:CloOk K n) (hQ:QuoOk K n) (hn0:n<9223372036854770000):CloOk K (n+1):=by
 intro d q S b i deep frm s vT vW nk ek ho hb h hs hi hdp hdn hd hq hf hek;obtain⟨d',rfl⟩:∃d',d=d'+8:=⟨d-8,by omega⟩
 obtain⟨q',rfl⟩:∃q',q=q'+1:=⟨q-1,by omega⟩
 unfold qgj;by_cases hlt:i<s.length
 . rw[iP hlt]
   obtain⟨U,k1,k2,k3,k4,k5⟩:=h.bump ho 1 (by omega);have hbU:b<U.next:=by omega
   have go:∀(U':St) (i' deep':Nat),U'.on=false->Grew (fun x=>x=b) S U'->U'.next=S.next->Lx U' b s i' vT vW->i<i'->i'<=s.length+1->0<deep'->deep'<=deep+1->∀r,r=qko (ev E0 K (d'+8)) qa3 nk ek q' (.ptr b 0) (.int .i64 (frm:Int)) (.int .i64 (deep':Int)) U'->
    CloR (qgj n s i' deep') S b i s vT vW (r) frm:=fun U' i' deep' o1 g1 n1 l1 a1 a2 a3 a4 r hr=>
    fwd (i:=i) (i':=i') hr g1 n1 (by omega) (hC (d'+8) q' U' b i' deep' frm s vT vW nk ek o1 (by omega) l1 hs a2 a3 (by omega) (by omega) (by omega) (by omega) hek)
   have hL:qko (ev E0 K (d'+8)) qa3 nk ek (q'+1) (.ptr b 0) (.int .i64 (frm:Int)) (.int .i64 (deep:Int)) S=_:=L88_4_eq ..;rw[qeo hK (d'+7) ho h,callP_ret,dT hlt,ifK_bool,cT,h.o0 ho]at hL;dsimp only at hL;rw[h.l1 ho]at hL;dsimp only at hL;rw[qbl _ _ _ hlt,oB,qcb (by rfl),qee,llg,qco ho,qb9 hlt,show V.int .i64 1=.int .i64 ((1:Nat):Int)from rfl,k1]at hL;dsimp only at hL;rw[show V.int .u8 92=.int .u8 ((92:UInt8).toNat:Int)from rfl,qd9,oB,ifK_bool]at hL;by_cases h92:byt s i=92
   . rw[iP h92]
     obtain⟨U2,j1,j2,j3,j4,j5⟩:=k2.bump k5 1 (by omega);rw[dT h92,cT,j1]at hL;exact go U2 (i+2) deep j5 (k3.trans j3) (by omega) j2 (by omega) (by omega) hdp (by omega) _ hL
   . rw[iN h92]
     rw[dF h92,cF,show V.int .u8 39=.int .u8 ((39:UInt8).toNat:Int)from rfl,qd9,oB,ifK_bool]at hL;by_cases h39:byt s i=39
     . rw[iP h39]
       rw[dT h39,cT,k2.o0 k5]at hL;dsimp only at hL;rw[k2.l1 k5]at hL;dsimp only at hL;rw[qee,llg,qap qij s (qdq .i64 (by omega)) (lR _),oB,List.take_of_length_le (by rw[List.length_drop]; omega)]at hL;dsimp only at hL;rw[qee,llg,ix_run hK (d'+6),qbs,qcb (by rfl),qee,llg,qco k5,lt0,oB,ifK_bool,ixB_idx]at hL;cases hx:qim s (i+1) 39 with
       | none=>
        rw[hx]at hL;dsimp only at hL;rw[show decide ((-1:Int)<0)=true from rfl,cT]at hL;rw[hL];exact Bad.after k3 (bad0 ((qcf hK (d'+7) k5 19 frm).callP _))
       | some k=>
        obtain⟨x1,x2⟩:=qdu hx;obtain⟨U2,j1,j2,j3,j4,j5⟩:=k2.bumpV k5 (k-(i+1)+1) (by omega);rw[hx]at hL;dsimp only at hL;rw[show decide ((((k-(i+1):Nat):Int))<0)=false by simp,cF]at hL;have hsw:(V.int .i64 ((1:Nat):Int))=V.int .i64 1:=rfl;rw[k2.r1 k5]at hL;dsimp only at hL;rw[addC 1 (by omega),oB]at hL;have:=j1;rw[addN (by omega),oB]at hL;obtain⟨U3,z1,z2,z3,z4,z5⟩:=k2.set k5 (i+1+(k-(i+1)+1));rw[z1]at hL;rw[show i+1+(k-(i+1)+1)=k+1 by omega]at z2;exact go U3 (k+1) deep z5 (k3.trans z3) (by omega) z2 (by omega) (by omega) hdp (by omega) _ hL
     . rw[iN h39]
       rw[dF h39,cF,show V.int .u8 34=.int .u8 ((34:UInt8).toNat:Int)from rfl,qd9,oB,ifK_bool]at hL;by_cases h34:byt s i=34
       . rw[iP h34]
         rw[dT h34,cT]at hL;have hqc:=quo_call hK hQ (d'+7) U b (i+1) frm s vT vW k5 hbU k2 hs (by omega) hn0 (by omega) (by unfold qa3; omega) (by omega);cases hqd:qkx n s (i+1)with
         | none=>
          rw[hqd]at hqc;dsimp only;rw[hL];exact Bad.after k3 (hqc.callP _)
         | some j=>
          rw[hqd]at hqc;obtain⟨a1,a2,U2,a3,a4,a5,a6,a7⟩:=hqc;rw[a3,callP_ret]at hL;dsimp only;exact go U2 j deep a7 (k3.trans a5) (by omega) a4 (by omega) (by omega) hdp (by omega) _ hL
       . rw[iN h34]
         rw[dF h34,cF,show V.int .u8 40=.int .u8 ((40:UInt8).toNat:Int)from rfl,qd9,oB,ifK_bool]at hL;by_cases h40:byt s i=40
         . rw[iP h40]
           rw[dT h40,cT,addC 1 (by omega),oB]at hL;exact go U (i+1) (deep+1) k5 k3 k4 k2 (by omega) (by omega) (by omega) (by omega) _ hL
         . rw[iN h40]
           rw[dF h40,cF,show V.int .u8 41=.int .u8 ((41:UInt8).toNat:Int)from rfl,qd9,oB,ifK_bool]at hL;by_cases h41:byt s i=41
           . rw[iP h41]
             rw[dT h41,cT,subC 1 (by omega) (by omega),oB,eql0,oB,ifK_bool]at hL;by_cases h1:deep=1
             . rw[iP h1]
               rw[dT (by omega),cT]at hL;exact⟨by omega,by omega,U,hL,k2,k3,k4,k5⟩
             . rw[iN h1]
               rw[dF (by omega),cF]at hL;exact go U (i+1) (deep-1) k5 k3 k4 k2 (by omega) (by omega) (by omega) (by omega) _ hL
           . rw[iN h41]
             rw[dF h41,cF]at hL;exact go U (i+1) deep k5 k3 k4 k2 (by omega) (by omega) hdp (by omega) _ hL
 . rw[iN hlt]
   show Bad _ _ _ _ _;rw[L88_4_eq,qeo hK (d'+7) ho h,callP_ret,dF hlt,ifK_bool,cF];exact bad0 (hek S ho)
theorem quo_step (hK:RefL K) {n:Nat} (hC:CloOk K n) (hQ:QuoOk K n) (hn0:n<9223372036854760000):QuoOk K (n+1):=by
 intro d q S b i frm s vT vW nk ek ho hb h hs hi hdn hd hq hf hek;obtain⟨d',rfl⟩:∃d',d=d'+8:=⟨d-8,by omega⟩
 obtain⟨q',rfl⟩:∃q',q=q'+1:=⟨q-1,by omega⟩
 unfold qkx;have hL:L98_3 (ev E0 K (d'+8)) qa3 nk ek (q'+1) (.ptr b 0) (.int .i64 (frm:Int)) S=_:=L98_3_eq ..;by_cases hlt:i<s.length
 . rw[iP hlt]
   have go:∀(U':St) (i':Nat),U'.on=false->Grew (fun x=>x=b) S U'->U'.next=S.next->Lx U' b s i' vT vW->i<i'->i'<=s.length+1->∀r,r=L98_3 (ev E0 K (d'+8)) qa3 nk ek q' (.ptr b 0) (.int .i64 (frm:Int)) U'->
    CloR (qkx n s i') S b i s vT vW (r) frm:=fun U' i' o1 g1 n1 l1 a1 a2 r hr=>
    fwd (i:=i) (i':=i') hr g1 n1 (by omega) (hQ (d'+8) q' U' b i' frm s vT vW nk ek o1 (by omega) l1 hs a2 (by omega) (by omega) (by omega) (by omega) hek)
   rw[qeo hK (d'+7) ho h,callP_ret,dT hlt,ifK_bool,cT]at hL;have hbeg:∀t,begD (s.drop i) t=atD s i t:=fun t=>rfl;by_cases h92:byt s i=92
   . rw[iP h92]
     obtain⟨U,k1,k2,k3,k4⟩:=qba hK (d'+4) ho h (by omega) (t:=[92]) (by simp; omega) (by rw[hbeg,qbn hlt,dT h92]);have k5:=k3.on.trans ho;obtain⟨U2,j1,j2,j3,j4,j5⟩:=k2.bump k5 1 (by simp; omega);rw[k1,callP_ret,ifK_bool,cT,show V.int .i64 1=.int .i64 ((1:Nat):Int)from rfl,j1]at hL;exact go U2 (i+2) j5 (k3.trans j3) (by omega) j2 (by omega) (by omega) _ hL
   . rw[iN h92]
     rw[qbp hK (d'+4) ho h (by omega) (t:=[92]) (by rw[hbeg,qbn hlt,dF h92]),callP_ret,ifK_bool,cF]at hL;by_cases h34:byt s i=34
     . rw[iP h34]
       obtain⟨U,k1,k2,k3,k4⟩:=qba hK (d'+4) ho h (by omega) (t:=[34]) (by simp; omega) (by rw[hbeg,qbn hlt,dT h34]);rw[k1,callP_ret,ifK_bool,cT]at hL;exact⟨by omega,by omega,U,hL,k2,k3,k4,k3.on.trans ho⟩
     . rw[iN h34]
       rw[qbp hK (d'+4) ho h (by omega) (t:=[34]) (by rw[hbeg,qbn hlt,dF h34]),callP_ret,ifK_bool,cF]at hL;cases h36:atD s i [36,40]with
       | true=>
        obtain⟨U,k1,k2,k3,k4⟩:=qba hK (d'+4) ho h (by omega) (t:=[36,40]) (by simp; omega) h36;have hle:=atD_len h36 (by omega);have k5:=k3.on.trans ho;simp only[List.length_cons,List.length_nil]at k2 hle;rw[k1,callP_ret,ifK_bool,cT]at hL;have hqc:=clo_call hK hC (d'+7) U b (i+2) frm s vT vW k5 (by omega) k2 hs (by omega) (by omega) (by omega) (by unfold qa3; omega) (by omega);rw[iP rfl];cases hqd:qgj n s (i+2) 1 with
        | none=>
         rw[hqd]at hqc;dsimp only;rw[hL];exact Bad.after k3 (hqc.callP _)
        | some j=>
         rw[hqd]at hqc;obtain⟨a1,a2,U2,a3,a4,a5,a6,a7⟩:=hqc;rw[a3,callP_ret]at hL;dsimp only;exact go U2 j a7 (k3.trans a5) (by omega) a4 (by omega) (by omega) _ hL
       | false=>
        rw[iN (by simp)];obtain⟨U,k1,k2,k3,k4,k5⟩:=h.bump ho 1 (by omega);rw[qbp hK (d'+4) ho h (by omega) (t:=[36,40]) h36,callP_ret,ifK_bool,cF,show V.int .i64 1=.int .i64 ((1:Nat):Int)from rfl,k1]at hL;exact go U (i+1) k5 k3 k4 k2 (by omega) (by omega) _ hL
 . rw[iN hlt]
   show Bad _ _ _ _ _;rw[hL,qeo hK (d'+7) ho h,callP_ret,dF hlt,ifK_bool,cF];exact bad0 (hek S ho)
theorem clo_zero (hK:RefL K):CloOk K 0:=by
 intro d q S b i deep frm s vT vW nk ek ho hb h hs hi hdp hdn hd hq hf hek;obtain⟨d',rfl⟩:∃d',d=d'+8:=⟨d-8,by omega⟩
 obtain⟨q',rfl⟩:∃q',q=q'+1:=⟨q-1,by omega⟩
 show Bad _ _ _ _ _;rw[L88_4_eq,qeo hK (d'+7) ho h,callP_ret,dF (by omega),ifK_bool,cF];exact bad0 (hek S ho)
theorem quo_zero (hK:RefL K):QuoOk K 0:=by
 intro d q S b i frm s vT vW nk ek ho hb h hs hi hdn hd hq hf hek;obtain⟨d',rfl⟩:∃d',d=d'+8:=⟨d-8,by omega⟩
 obtain⟨q',rfl⟩:∃q',q=q'+1:=⟨q-1,by omega⟩
 show Bad _ _ _ _ _;rw[L98_3_eq,qeo hK (d'+7) ho h,callP_ret,dF (by omega),ifK_bool,cF];exact bad0 (hek S ho)
theorem clo_quo (hK:RefL K):∀n,n<9223372036854760000->CloOk K n/\QuoOk K n
 | 0,_=>⟨clo_zero hK,quo_zero hK⟩
 | n+1,hn=>by
  obtain⟨h1,h2⟩:=clo_quo hK n (by omega);exact⟨clo_step hK h1 h2 (by omega),quo_step hK h1 h2 (by omega)⟩
theorem closed_run (hK:RefL K) (n d:Nat) {S:St} {b i:Nat} (frm:Nat) {s:Bs} {vT vW:V} (ho:S.on=false) (hb:b<S.next) (h:Lx S b s i vT vW) (hs:s.length<9223372036854770000) (hi:i<=s.length+1) (hn:n<9223372036854760000) (hd:n+8<=d) (hf:s.length+1<=n+i) :
 CloR (qgj n s i 1) S b i s vT vW ((ev E0 K (d+1)).f 88 [.ptr b 0,.int .i64 (frm:Int)] S) frm:=
 clo_call hK (clo_quo hK n hn).1 d S b i frm s vT vW ho hb h hs hi (by omega) hd (by unfold qa3; omega) hf
end
end Go.Proofs.YtafbipadnnmccaaDoor.W
end
