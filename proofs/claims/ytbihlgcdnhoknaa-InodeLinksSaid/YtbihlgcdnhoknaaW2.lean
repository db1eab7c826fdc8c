/-
  WHAT THE FUNCTIONS COME TO: each is read by the evaluator, printed, and told as a function of data, part 2 of 7 (no condition).
-/
import Derived.Test.YtbihlgcdnhoknaaW1
import Derived.Test.YtbihlgcdnhoknaaProg
import Derived.KernelRfl
namespace Go.Proofs.Ytbihlgcdnhoknaa.W
open Go.Proofs.Ytbihlgcdnhoknaa.Ev
set_option maxRecDepth 100000
noncomputable section
noncomputable def C3 : Code := Try.f3.body.getD .skip
noncomputable def B3 : D := (annot C3 [[], [], [], [], [], [], [], [], [], [], [], [], [], [0, 1, 2, 7, 8, 10, 12, 13], [], [1, 2, 7, 8, 10, 12], [], [], [], [], [], [], [], [], [], [0, 1, 2, 7, 8, 10, 12], [6], [], [], [], [], [1, 2, 7, 8, 10, 12, 16], [], [7, 10], [], [], [], [], [], [], [], [0, 1, 2, 7, 8, 10, 12, 16, 19], [1, 2, 7, 8, 10, 12, 16], [], [], [0, 1, 2, 7, 8, 10, 12, 16, 19, 20], [1, 2, 7, 8, 10, 12, 16], [], [], [], [], [0, 1, 2, 7, 8, 10, 12, 16], [1, 2, 7, 8, 10, 12, 16], [0, 7, 10], [6], [], []]).1
noncomputable def RL3 : List Nat := cellsOf Try.f3.results.toList
noncomputable def R3_36 (self : EV) (N : Nat) (nk : Ac → St → Rs) (ek : Nat → Ac → St → Rs) (a : Ac) (S : St) : Rs := projK [1, 2, 7, 8, 10, 12] a fun a => dr E0 self RL3 N (B3.r.r.r.r.r.r.r.r).r (mkK E0 self Try.f3 nk ek) a S
noncomputable def R3_51 (self : EV) (N : Nat) (nk : Ac → St → Rs) (ek : Nat → Ac → St → Rs) (a : Ac) (S : St) : Rs := projK [7, 10] a fun a => dr E0 self RL3 N (B3.r.r.r.r.r.r.r.r.r.l.r).r (mkK E0 self Try.f3 nk ek) a S
theorem R3_51_eq (self : EV) (N : Nat) (nk : Ac → St → Rs) (ek : Nat → Ac → St → Rs) ( v7 v10 : V) (S : St) : R3_51 self N nk ek (fr 192 [(7, v7), (10, v10)]) S =
callP (self.f 12 [v7, v10] S) fun t54 S54 =>
(extractV t54 0).bind fun t56 =>
(extractV t54 1).bind fun t57 =>
(some (nwP 35 4 (Tr.ofListFrom .nil [(.int .i64 0), (.int .i64 0), (sv []), (.int .i64 0)] 0) S54)).bind fun p58 =>
(stP 4 p58.1 t56 p58.2).bind fun p59 =>
(unV .not t57).bind fun t62 =>
(guardV true t62).bind fun g64 => (bif g64 then some v7 else some (.tuple [])).bind fun t64 =>
(guardV true t62).bind fun g65 => callP (bif g65 then self.f 11 [t64] p59.2 else some (.ret (.tuple []), p59.2)) fun t65 S65 =>
(guardV true t62).bind fun g66 => (bif g66 then buildV E0 26 [(0, (.int .i64 2))] else some (.tuple [])).bind fun t66 =>
(guardV true t62).bind fun g67 => (bif g67 then binV E0 .eql 26 false false t65 t66 else some (.tuple [])).bind fun t67 =>
(pickV t62 (some t67) (some (.bool false))).bind fun t68 =>
(guardV true t68).bind fun g70 => callP (bif g70 then self.f 15 [] S65 else some (.ret (.tuple []), S65)) fun t70 S70 =>
(pickV t68 (some t70) (some (.bool false))).bind fun t71 =>
some (.ret t71, S70) := by kernel_rfl
noncomputable def L3_74 (self : EV) (N : Nat) (nk : Ac → St → Rs) (ek : Nat → Ac → St → Rs) (n : Nat) ( v1 v2 v7 v8 v10 v12 v16 : V) (S : St) : Rs := loopK [1, 2, 7, 8, 10, 12, 16] (dr E0 self RL3 N (B3.r.r.r.r.r.r.r.r.r.l.r.l.r.l.l)) (mkK E0 self Try.f3 nk ek) n (fr 192 [(1, v1), (2, v2), (7, v7), (8, v8), (10, v10), (12, v12), (16, v16)]) S
theorem L3_74_eq (self : EV) (N : Nat) (nk : Ac → St → Rs) (ek : Nat → Ac → St → Rs) (n : Nat) ( v1 v2 v7 v8 v10 v12 v16 : V) (S : St) : L3_74 self N nk ek (n + 1) v1 v2 v7 v8 v10 v12 v16 S =
(lnS v12 S).bind fun p76 =>
(binV E0 .gtr 3 false true p76.1 (.int .i64 0)).bind fun t77 =>
ifK t77 (
callP (self.f 12 [v7, v10] p76.2) fun t80 S80 =>
(extractV t80 0).bind fun t82 =>
(extractV t80 1).bind fun t83 =>
(some (nwP 35 4 (Tr.ofListFrom .nil [(.int .i64 0), (.int .i64 0), (sv []), (.int .i64 0)] 0) S80)).bind fun p84 =>
(stP 4 p84.1 t82 p84.2).bind fun p85 =>
(unV .not t83).bind fun t88 =>
(guardV false t88).bind fun g90 => (bif g90 then faP 3 false 1 p84.1 else some (.tuple [])).bind fun t90 =>
(guardV false t88).bind fun g91 => (bif g91 then ld1 t90 p85.2 else some (.tuple [], p85.2)).bind fun p91 =>
(guardV false t88).bind fun g92 => (bif g92 then some v12 else some (.tuple [])).bind fun t92 =>
(guardV false t88).bind fun g93 => (bif g93 then lnS t92 p91.2 else some (.tuple [], p91.2)).bind fun p93 =>
(guardV false t88).bind fun g94 => (bif g94 then binV E0 .neq 3 false false p91.1 p93.1 else some (.tuple [])).bind fun t94 =>
(pickV t88 (some (.bool true)) (some t94)).bind fun t95 =>
(guardV false t95).bind fun g97 => (bif g97 then faP 2 false 1 p84.1 else some (.tuple [])).bind fun t97 =>
(guardV false t95).bind fun g98 => (bif g98 then ld1 t97 p93.2 else some (.tuple [], p93.2)).bind fun p98 =>
(guardV false t95).bind fun g99 => (bif g99 then some v1 else some (.tuple [])).bind fun t99 =>
(guardV false t95).bind fun g100 => (bif g100 then binV E0 .neq 9 false false p98.1 t99 else some (.tuple [])).bind fun t100 =>
(pickV t95 (some (.bool true)) (some t100)).bind fun t101 =>
ifK t101 (
some (.ret (.bool false), p98.2)) (
(lnS v2 p98.2).bind fun p106 =>
(binV E0 .lss 3 false false v16 p106.1).bind fun t107 =>
ifK t107 (
(ixP 1 v2 v16).bind fun t110 =>
(ld1 t110 p106.2).bind fun p111 =>
(cvI .i64 p111.1 p111.2).bind fun p112 =>
(lnS v12 p112.2).bind fun p114 =>
(binV E0 .rem 3 false false p112.1 p114.1).bind fun t115 =>
(ixP 1 v12 t115).bind fun t120 =>
(ld1 t120 p114.2).bind fun p121 =>
(ixS p121.1 (.int .i64 0)).bind fun t122 =>
(binV E0 .sub 5 false true t122 (.int .u8 97)).bind fun t123 =>
(binV E0 .rem 5 false true t123 (.int .u8 2)).bind fun t124 =>
(binV E0 .eql 5 false true t124 (.int .u8 1)).bind fun t125 =>
ifK t125 (
(ixP 1 v12 t115).bind fun t132 =>
(ld1 t132 p121.2).bind fun p133 =>
callP (self.f 13 [v7, v8, p133.1] p133.2) fun t134 S134 =>
(extractV t134 0).bind fun t136 =>
(extractV t134 1).bind fun t137 =>
(unV .not t137).bind fun t141 =>
(guardV false t141).bind fun g143 => (bif g143 then some t136 else some (.tuple [])).bind fun t143 =>
(guardV false t141).bind fun g144 => (bif g144 then some v10 else some (.tuple [])).bind fun t144 =>
(guardV false t141).bind fun g145 => (bif g145 then binV E0 .neq 3 false false t143 t144 else some (.tuple [])).bind fun t145 =>
(pickV t141 (some (.bool true)) (some t145)).bind fun t146 =>
(guardV false t146).bind fun g148 => (bif g148 then some v7 else some (.tuple [])).bind fun t148 =>
(guardV false t146).bind fun g149 => (bif g149 then some v8 else some (.tuple [])).bind fun t149 =>
(guardV false t146).bind fun g150 => (bif g150 then some v12 else some (.tuple [])).bind fun t150 =>
(guardV false t146).bind fun g151 => (bif g151 then some t115 else some (.tuple [])).bind fun t151 =>
(guardV false t146).bind fun g152 => (bif g152 then ixP 1 t150 t151 else some (.tuple [])).bind fun t152 =>
(guardV false t146).bind fun g153 => (bif g153 then ld1 t152 S134 else some (.tuple [], S134)).bind fun p153 =>
(guardV false t146).bind fun g154 => callP (bif g154 then self.f 14 [t148, t149, p153.1] p153.2 else some (.ret (.tuple []), p153.2)) fun t154 S154 =>
(guardV false t146).bind fun g155 => (bif g155 then binV E0 .neq 27 false true t154 (.int .i64 0) else some (.tuple [])).bind fun t155 =>
(pickV t146 (some (.bool true)) (some t155)).bind fun t156 =>
ifK t156 (
some (.ret (.bool false), S154)) (
(bsP 9 1 0 (one (sv [])) [] (onS S154)).bind fun p158 =>
(sliceV E0 30 v12 none (some t115) none (onS p158.2)).bind fun p161 =>
(apP 9 1 16 p158.1 p161.1 (onS p161.2)).bind fun p162 =>
(binV E0 .add 3 false true t115 (.int .i64 1)).bind fun t165 =>
(sliceV E0 30 v12 (some t165) none none (onS p162.2)).bind fun p166 =>
(apP 9 1 16 p162.1 p166.1 (onS p166.2)).bind fun p167 =>
endP [(0, [3, 8]), (3, [8]), (4, [8])] S154 [p158.2.log, [], [], p161.2.log, p162.2.log, [], [], [], p166.2.log, p167.2.log, []] (onS p167.2) fun S169 =>
(binV E0 .add 3 false true v16 (.int .i64 1)).bind fun t171 =>
L3_74 self N nk ek n v1 v2 v7 v8 v10 p167.1 t171 S169)) (
(ixP 1 v12 t115).bind fun t177 =>
(ld1 t177 p121.2).bind fun p178 =>
callP (self.f 13 [v7, (.int .i64 1), p178.1] p178.2) fun t179 S179 =>
(extractV t179 0).bind fun t181 =>
(extractV t179 1).bind fun t182 =>
(unV .not t182).bind fun t186 =>
(guardV false t186).bind fun g188 => (bif g188 then some t181 else some (.tuple [])).bind fun t188 =>
(guardV false t186).bind fun g189 => (bif g189 then some v10 else some (.tuple [])).bind fun t189 =>
(guardV false t186).bind fun g190 => (bif g190 then binV E0 .neq 3 false false t188 t189 else some (.tuple [])).bind fun t190 =>
(pickV t186 (some (.bool true)) (some t190)).bind fun t191 =>
(guardV false t191).bind fun g193 => (bif g193 then some v7 else some (.tuple [])).bind fun t193 =>
(guardV false t191).bind fun g194 => (bif g194 then some (.int .i64 1) else some (.tuple [])).bind fun t194 =>
(guardV false t191).bind fun g195 => (bif g195 then some v12 else some (.tuple [])).bind fun t195 =>
(guardV false t191).bind fun g196 => (bif g196 then some t115 else some (.tuple [])).bind fun t196 =>
(guardV false t191).bind fun g197 => (bif g197 then ixP 1 t195 t196 else some (.tuple [])).bind fun t197 =>
(guardV false t191).bind fun g198 => (bif g198 then ld1 t197 S179 else some (.tuple [], S179)).bind fun p198 =>
(guardV false t191).bind fun g199 => callP (bif g199 then self.f 14 [t193, t194, p198.1] p198.2 else some (.ret (.tuple []), p198.2)) fun t199 S199 =>
(guardV false t191).bind fun g200 => (bif g200 then binV E0 .neq 27 false true t199 (.int .i64 0) else some (.tuple [])).bind fun t200 =>
(pickV t191 (some (.bool true)) (some t200)).bind fun t201 =>
ifK t201 (
some (.ret (.bool false), S199)) (
(bsP 9 1 0 (one (sv [])) [] (onS S199)).bind fun p203 =>
(sliceV E0 30 v12 none (some t115) none (onS p203.2)).bind fun p206 =>
(apP 9 1 16 p203.1 p206.1 (onS p206.2)).bind fun p207 =>
(binV E0 .add 3 false true t115 (.int .i64 1)).bind fun t210 =>
(sliceV E0 30 v12 (some t210) none none (onS p207.2)).bind fun p211 =>
(apP 9 1 16 p207.1 p211.1 (onS p211.2)).bind fun p212 =>
endP [(0, [3, 8]), (3, [8]), (4, [8])] S199 [p203.2.log, [], [], p206.2.log, p207.2.log, [], [], [], p211.2.log, p212.2.log, []] (onS p212.2) fun S214 =>
(binV E0 .add 3 false true v16 (.int .i64 1)).bind fun t216 =>
L3_74 self N nk ek n v1 v2 v7 v8 v10 p212.1 t216 S214))) (
(ixP 1 v12 (.int .i64 0)).bind fun t221 =>
(ld1 t221 p106.2).bind fun p222 =>
(ixS p222.1 (.int .i64 0)).bind fun t223 =>
(binV E0 .sub 5 false true t223 (.int .u8 97)).bind fun t224 =>
(binV E0 .rem 5 false true t224 (.int .u8 2)).bind fun t225 =>
(binV E0 .eql 5 false true t225 (.int .u8 1)).bind fun t226 =>
ifK t226 (
(ixP 1 v12 (.int .i64 0)).bind fun t233 =>
(ld1 t233 p222.2).bind fun p234 =>
callP (self.f 13 [v7, v8, p234.1] p234.2) fun t235 S235 =>
(extractV t235 0).bind fun t237 =>
(extractV t235 1).bind fun t238 =>
(unV .not t238).bind fun t242 =>
(guardV false t242).bind fun g244 => (bif g244 then some t237 else some (.tuple [])).bind fun t244 =>
(guardV false t242).bind fun g245 => (bif g245 then some v10 else some (.tuple [])).bind fun t245 =>
(guardV false t242).bind fun g246 => (bif g246 then binV E0 .neq 3 false false t244 t245 else some (.tuple [])).bind fun t246 =>
(pickV t242 (some (.bool true)) (some t246)).bind fun t247 =>
(guardV false t247).bind fun g249 => (bif g249 then some v7 else some (.tuple [])).bind fun t249 =>
(guardV false t247).bind fun g250 => (bif g250 then some v8 else some (.tuple [])).bind fun t250 =>
(guardV false t247).bind fun g251 => (bif g251 then some v12 else some (.tuple [])).bind fun t251 =>
(guardV false t247).bind fun g252 => (bif g252 then some (.int .i64 0) else some (.tuple [])).bind fun t252 =>
(guardV false t247).bind fun g253 => (bif g253 then ixP 1 t251 t252 else some (.tuple [])).bind fun t253 =>
(guardV false t247).bind fun g254 => (bif g254 then ld1 t253 S235 else some (.tuple [], S235)).bind fun p254 =>
(guardV false t247).bind fun g255 => callP (bif g255 then self.f 14 [t249, t250, p254.1] p254.2 else some (.ret (.tuple []), p254.2)) fun t255 S255 =>
(guardV false t247).bind fun g256 => (bif g256 then binV E0 .neq 27 false true t255 (.int .i64 0) else some (.tuple [])).bind fun t256 =>
(pickV t247 (some (.bool true)) (some t256)).bind fun t257 =>
ifK t257 (
some (.ret (.bool false), S255)) (
(bsP 9 1 0 (one (sv [])) [] (onS S255)).bind fun p259 =>
(sliceV E0 30 v12 none (some (.int .i64 0)) none (onS p259.2)).bind fun p262 =>
(apP 9 1 16 p259.1 p262.1 (onS p262.2)).bind fun p263 =>
(binV E0 .add 3 false true (.int .i64 0) (.int .i64 1)).bind fun t266 =>
(sliceV E0 30 v12 (some t266) none none (onS p263.2)).bind fun p267 =>
(apP 9 1 16 p263.1 p267.1 (onS p267.2)).bind fun p268 =>
endP [(0, [3, 8]), (3, [8]), (4, [8])] S255 [p259.2.log, [], [], p262.2.log, p263.2.log, [], [], [], p267.2.log, p268.2.log, []] (onS p268.2) fun S270 =>
(binV E0 .add 3 false true v16 (.int .i64 1)).bind fun t272 =>
L3_74 self N nk ek n v1 v2 v7 v8 v10 p268.1 t272 S270)) (
(ixP 1 v12 (.int .i64 0)).bind fun t278 =>
(ld1 t278 p222.2).bind fun p279 =>
callP (self.f 13 [v7, (.int .i64 1), p279.1] p279.2) fun t280 S280 =>
(extractV t280 0).bind fun t282 =>
(extractV t280 1).bind fun t283 =>
(unV .not t283).bind fun t287 =>
(guardV false t287).bind fun g289 => (bif g289 then some t282 else some (.tuple [])).bind fun t289 =>
(guardV false t287).bind fun g290 => (bif g290 then some v10 else some (.tuple [])).bind fun t290 =>
(guardV false t287).bind fun g291 => (bif g291 then binV E0 .neq 3 false false t289 t290 else some (.tuple [])).bind fun t291 =>
(pickV t287 (some (.bool true)) (some t291)).bind fun t292 =>
(guardV false t292).bind fun g294 => (bif g294 then some v7 else some (.tuple [])).bind fun t294 =>
(guardV false t292).bind fun g295 => (bif g295 then some (.int .i64 1) else some (.tuple [])).bind fun t295 =>
(guardV false t292).bind fun g296 => (bif g296 then some v12 else some (.tuple [])).bind fun t296 =>
(guardV false t292).bind fun g297 => (bif g297 then some (.int .i64 0) else some (.tuple [])).bind fun t297 =>
(guardV false t292).bind fun g298 => (bif g298 then ixP 1 t296 t297 else some (.tuple [])).bind fun t298 =>
(guardV false t292).bind fun g299 => (bif g299 then ld1 t298 S280 else some (.tuple [], S280)).bind fun p299 =>
(guardV false t292).bind fun g300 => callP (bif g300 then self.f 14 [t294, t295, p299.1] p299.2 else some (.ret (.tuple []), p299.2)) fun t300 S300 =>
(guardV false t292).bind fun g301 => (bif g301 then binV E0 .neq 27 false true t300 (.int .i64 0) else some (.tuple [])).bind fun t301 =>
(pickV t292 (some (.bool true)) (some t301)).bind fun t302 =>
ifK t302 (
some (.ret (.bool false), S300)) (
(bsP 9 1 0 (one (sv [])) [] (onS S300)).bind fun p304 =>
(sliceV E0 30 v12 none (some (.int .i64 0)) none (onS p304.2)).bind fun p307 =>
(apP 9 1 16 p304.1 p307.1 (onS p307.2)).bind fun p308 =>
(binV E0 .add 3 false true (.int .i64 0) (.int .i64 1)).bind fun t311 =>
(sliceV E0 30 v12 (some t311) none none (onS p308.2)).bind fun p312 =>
(apP 9 1 16 p308.1 p312.1 (onS p312.2)).bind fun p313 =>
endP [(0, [3, 8]), (3, [8]), (4, [8])] S300 [p304.2.log, [], [], p307.2.log, p308.2.log, [], [], [], p312.2.log, p313.2.log, []] (onS p313.2) fun S315 =>
(binV E0 .add 3 false true v16 (.int .i64 1)).bind fun t317 =>
L3_74 self N nk ek n v1 v2 v7 v8 v10 p313.1 t317 S315))))) (
ek 2 (fr 192 [(7, v7), (10, v10)]) p76.2) := by kernel_rfl
theorem R3_36_eq (self : EV) (N : Nat) (nk : Ac → St → Rs) (ek : Nat → Ac → St → Rs) ( v1 v2 v7 v8 v10 v12 : V) (S : St) : R3_36 self N nk ek (fr 192 [(1, v1), (2, v2), (7, v7), (8, v8), (10, v10), (12, v12)]) S =
callP (self.f 10 [v7, v10, v1] S) fun t40 S40 =>
(binV E0 .neq 27 false true t40 (.int .i64 0)).bind fun t41 =>
(guardV false t41).bind fun g43 => (bif g43 then some v7 else some (.tuple [])).bind fun t43 =>
(guardV false t41).bind fun g44 => callP (bif g44 then self.f 11 [t43] S40 else some (.ret (.tuple []), S40)) fun t44 S44 =>
(guardV false t41).bind fun g45 => (bif g45 then some v1 else some (.tuple [])).bind fun t45 =>
(guardV false t41).bind fun g46 => (bif g46 then lnStr t45 S44 else some (.tuple [], S44)).bind fun p46 =>
(guardV false t41).bind fun g47 => (bif g47 then buildV E0 26 [(0, (.int .i64 3)), (1, p46.1)] else some (.tuple [])).bind fun t47 =>
(guardV false t41).bind fun g48 => (bif g48 then binV E0 .neq 26 false false t44 t47 else some (.tuple [])).bind fun t48 =>
(pickV t41 (some (.bool true)) (some t48)).bind fun t49 =>
ifK t49 (
some (.ret (.bool false), p46.2)) (
L3_74 self N (R3_51 self N (fun a s => projK [6] a fun a => nk a s) ek) (exB 2 (R3_51 self N (fun a s => projK [6] a fun a => nk a s) ek) ek) N v1 v2 v7 v8 v10 v12 (.int .i64 0) p46.2) := by kernel_rfl
noncomputable def L3_320 (self : EV) (N : Nat) (nk : Ac → St → Rs) (ek : Nat → Ac → St → Rs) (n : Nat) ( v0 v1 v2 v7 v8 v10 v12 v13 : V) (S : St) : Rs := loopK [0, 1, 2, 7, 8, 10, 12, 13] (dr E0 self RL3 N (B3.r.r.r.r.r.r.r.r.l.r.l.l)) (mkK E0 self Try.f3 nk ek) n (fr 192 [(0, v0), (1, v1), (2, v2), (7, v7), (8, v8), (10, v10), (12, v12), (13, v13)]) S
theorem L3_320_eq (self : EV) (N : Nat) (nk : Ac → St → Rs) (ek : Nat → Ac → St → Rs) (n : Nat) ( v0 v1 v2 v7 v8 v10 v12 v13 : V) (S : St) : L3_320 self N nk ek (n + 1) v0 v1 v2 v7 v8 v10 v12 v13 S =
(binV E0 .rem 5 false true v0 (.int .u8 12)).bind fun t323 =>
(cvI .i64 t323 S).bind fun p324 =>
(binV E0 .add 3 true false (.int .i64 1) p324.1).bind fun t325 =>
(binV E0 .lss 3 false false v13 t325).bind fun t326 =>
ifK t326 (
(cvI .u8 v13 p324.2).bind fun p328 =>
(binV E0 .add 5 true false (.int .u8 97) p328.1).bind fun t329 =>
(bsP 5 1 1 (one (.int .u8 0)) [(0, t329)] p328.2).bind fun p330 =>
(convertV E0 22 9 p330.1 p330.2).bind fun p331 =>
(binV E0 .rem 3 false true v13 (.int .i64 2)).bind fun t335 =>
(binV E0 .eql 3 false true t335 (.int .i64 1)).bind fun t336 =>
ifK t336 (
callP (self.f 9 [v7, v8, p331.1, v10] p331.2) fun t343 S343 =>
(binV E0 .neq 27 false true t343 (.int .i64 0)).bind fun t344 =>
ifK t344 (
some (.ret (.bool false), S343)) (
(bsP 9 1 1 (one (sv [])) [(0, p331.1)] S343).bind fun p348 =>
(apP 9 1 16 v12 p348.1 p348.2).bind fun p349 =>
(binV E0 .add 3 false true v13 (.int .i64 1)).bind fun t352 =>
L3_320 self N nk ek n v0 v1 v2 v7 v8 v10 p349.1 t352 p349.2)) (
callP (self.f 9 [v7, (.int .i64 1), p331.1, v10] p331.2) fun t358 S358 =>
(binV E0 .neq 27 false true t358 (.int .i64 0)).bind fun t359 =>
ifK t359 (
some (.ret (.bool false), S358)) (
(bsP 9 1 1 (one (sv [])) [(0, p331.1)] S358).bind fun p363 =>
(apP 9 1 16 v12 p363.1 p363.2).bind fun p364 =>
(binV E0 .add 3 false true v13 (.int .i64 1)).bind fun t367 =>
L3_320 self N nk ek n v0 v1 v2 v7 v8 v10 p364.1 t367 p364.2))) (
ek 0 (fr 192 [(1, v1), (2, v2), (7, v7), (8, v8), (10, v10), (12, v12)]) p324.2) := by kernel_rfl
noncomputable def F3 (self : EV) (N : Nat) (x0 x1 x2 : V) (S : St) : Rs := runF E0 self N Try.f3 B3 [x0, x1, x2] S
theorem F3_eq (self : EV) (N : Nat) (x0 x1 x2 : V) (S : St) : F3 self N x0 x1 x2 S =
(buildV E0 26 [(0, (.int .i64 10)), (1, (.int .i64 300))]).bind fun t1 =>
callP (self.f 7 [t1] S) fun t2 S2 =>
(binV E0 .eql 23 false true t2 .nilptr).bind fun t5 =>
ifK t5 (
some (.ret (.bool false), S2)) (
(lnStr x1 S2).bind fun p9 =>
(foldK minV p9.1 [(.int .i64 200)] p9.2).bind fun p10 =>
(sliceV E0 9 x1 none (some p10.1) none p10.2).bind fun p11 =>
callP (self.f 8 [t2, (.int .i64 1), (sv [100]), (.int .i64 2), (.int .i64 493), (sv [])] p11.2) fun t14 S14 =>
(extractV t14 0).bind fun t16 =>
(extractV t14 1).bind fun t17 =>
callP (self.f 8 [t2, (.int .i64 1), (sv [97]), (.int .i64 1), (.int .i64 420), (sv [111, 108, 100])] S14) fun t21 S21 =>
(extractV t21 0).bind fun t23 =>
(extractV t21 1).bind fun t24 =>
(binV E0 .neq 27 false true t17 (.int .i64 0)).bind fun t28 =>
(guardV false t28).bind fun g30 => (bif g30 then some t24 else some (.tuple [])).bind fun t30 =>
(guardV false t28).bind fun g31 => (bif g31 then binV E0 .neq 27 false true t30 (.int .i64 0) else some (.tuple [])).bind fun t31 =>
(pickV t28 (some (.bool true)) (some t31)).bind fun t32 =>
ifK t32 (
some (.ret (.bool false), S21)) (
(bsP 9 1 1 (one (sv [])) [(0, (sv [97]))] S21).bind fun p34 =>
L3_320 self N (R3_36 self N (finN E0 self Try.f3) noEx) (exB 0 (R3_36 self N (finN E0 self Try.f3) noEx) noEx) N x0 p11.1 x2 t2 t16 t23 p34.1 (.int .i64 1) p34.2)) := by kernel_rfl
end
end Go.Proofs.Ytbihlgcdnhoknaa.W
namespace Go.Proofs.Ytbihlgcdnhoknaa.W
open Go.Proofs.Ytbihlgcdnhoknaa.Ev
set_option maxRecDepth 100000
noncomputable section
noncomputable def C59 : Code := Try.f59.body.getD .skip
noncomputable def B59 : D := (annot C59 [[], []]).1
noncomputable def F59 (self : EV) (N : Nat) (x0 x1 : V) (S : St) : Rs := runF E0 self N Try.f59 B59 [x0, x1] S
theorem F59_eq (self : EV) (N : Nat) (x0 x1 : V) (S : St) : F59 self N x0 x1 S =
callP (self.f 78 [x0, x1] S) fun t3 S3 =>
(binV E0 .geq 3 false true t3 (.int .i64 0)).bind fun t4 =>
some (.ret t4, S3) := by kernel_rfl
noncomputable def C78 : Code := Try.f78.body.getD .skip
noncomputable def B78 : D := (annot C78 [[], [], [], [], [], [], [], [], [], [], [], [], [], [], [0, 6, 8], [], [], [], [], [], [], [0], [0, 1], [], [0, 0, 1], [4], [], [1, 45], [], [], [], [], [], [], [0], [4], []]).1
noncomputable def RL78 : List Nat := cellsOf Try.f78.results.toList
noncomputable def R78_22 (self : EV) (N : Nat) (nk : Ac → St → Rs) (ek : Nat → Ac → St → Rs) (a : Ac) (S : St) : Rs := projK [0, 1] a fun a => dr E0 self RL78 N (B78.r.r.r).r (mkK E0 self Try.f78 nk ek) a S
noncomputable def R78_23 (self : EV) (N : Nat) (nk : Ac → St → Rs) (ek : Nat → Ac → St → Rs) (a : Ac) (S : St) : Rs := projK [] a fun a => dr E0 self RL78 N (B78.r.r.r.r.l).r (mkK E0 self Try.f78 nk ek) a S
theorem R78_23_eq (self : EV) (N : Nat) (nk : Ac → St → Rs) (ek : Nat → Ac → St → Rs) (S : St) : R78_23 self N nk ek (fr 55 []) S =
some (.ret (.int .i64 (-1)), S) := by kernel_rfl
noncomputable def L78_27 (self : EV) (N : Nat) (nk : Ac → St → Rs) (ek : Nat → Ac → St → Rs) (n : Nat) ( v1 v45 : V) (S : St) : Rs := loopK [1, 45] (dr E0 self RL78 N (B78.r.r.r.r.l.l.r.l.l)) (mkK E0 self Try.f78 nk ek) n (fr 55 [(1, v1), (45, v45)]) S
theorem L78_27_eq (self : EV) (N : Nat) (nk : Ac → St → Rs) (ek : Nat → Ac → St → Rs) (n : Nat) ( v1 v45 : V) (S : St) : L78_27 self N nk ek (n + 1) v1 v45 S =
(nextK v45 true S).bind fun p28 =>
(extractV p28.1 0).bind fun t29 =>
ifK t29 (
(extractV p28.1 1).bind fun t30 =>
(extractV p28.1 2).bind fun t31 =>
callP (self.f 82 [v1, t31] p28.2) fun t36 S36 =>
(binV E0 .geq 3 false true t36 (.int .i64 0)).bind fun t37 =>
ifK t37 (
some (.ret t30, S36)) (
L78_27 self N nk ek n v1 v45 S36)) (
ek 2 (fr 55 []) p28.2) := by kernel_rfl
theorem R78_22_eq (self : EV) (N : Nat) (nk : Ac → St → Rs) (ek : Nat → Ac → St → Rs) ( v0 v1 : V) (S : St) : R78_22 self N nk ek (fr 55 [(0, v0), (1, v1)]) S =
(rangeStrK E0 9 v0 S).bind fun p26 =>
L78_27 self N (R78_23 self N (fun a s => projK [4] a fun a => nk a s) ek) (exB 2 (R78_23 self N (fun a s => projK [4] a fun a => nk a s) ek) ek) N v1 p26.1 p26.2 := by kernel_rfl
noncomputable def R78_52 (self : EV) (N : Nat) (nk : Ac → St → Rs) (ek : Nat → Ac → St → Rs) (a : Ac) (S : St) : Rs := projK [] a fun a => dr E0 self RL78 N (B78.r.r.r.l.r.l.r.r.l).r (mkK E0 self Try.f78 nk ek) a S
theorem R78_52_eq (self : EV) (N : Nat) (nk : Ac → St → Rs) (ek : Nat → Ac → St → Rs) (S : St) : R78_52 self N nk ek (fr 55 []) S =
some (.ret (.int .i64 (-1)), S) := by kernel_rfl
noncomputable def L78_55 (self : EV) (N : Nat) (nk : Ac → St → Rs) (ek : Nat → Ac → St → Rs) (n : Nat) ( v0 v6 v8 : V) (S : St) : Rs := loopK [0, 6, 8] (dr E0 self RL78 N (B78.r.r.r.l.r.l.r.r.l.l.r.l.l)) (mkK E0 self Try.f78 nk ek) n (fr 55 [(0, v0), (6, v6), (8, v8)]) S
theorem L78_55_eq (self : EV) (N : Nat) (nk : Ac → St → Rs) (ek : Nat → Ac → St → Rs) (n : Nat) ( v0 v6 v8 : V) (S : St) : L78_55 self N nk ek (n + 1) v0 v6 v8 S =
(lnStr v0 S).bind fun p58 =>
(binV E0 .lss 3 false false v8 p58.1).bind fun t59 =>
ifK t59 (
(ixS v0 v8).bind fun t62 =>
callP (self.f 85 [v6, t62] p58.2) fun t63 S63 =>
ifK t63 (
some (.ret v8, S63)) (
(binV E0 .add 3 false true v8 (.int .i64 1)).bind fun t67 =>
L78_55 self N nk ek n v0 v6 t67 S63)) (
ek 0 (fr 55 []) p58.2) := by kernel_rfl
noncomputable def F78 (self : EV) (N : Nat) (x0 x1 : V) (S : St) : Rs := runF E0 self N Try.f78 B78 [x0, x1] S
noncomputable def C82 : Code := Try.f82.body.getD .skip
noncomputable def B82 : D := (annot C82 [[], [], [], [], [], [175], [], [], [], [], [], [], [0], [4], [], [], [], [], [], [], [], [0, 7, 8, 9], [], [], [], [], [], [], [], [], [0, 0, 7, 8, 9], [0, 7, 8, 9], [], [0, 7, 8, 9, 12], [], [8, 9], [], [], [], [0, 8, 9], [0, 7, 8, 9], [], [], [], [], [], [], [0], [4], [], [], [], [], [], [], [], [], [], [0, 7, 8, 9, 14, 15], [], [], [], [], [], [0, 7, 8, 9, 14, 15, 16], [], [8, 9], [], [], [0, 7, 8, 9, 14, 15], [], [0, 8, 9], [0, 7, 8, 9, 14, 15], [], [0, 0, 7, 8, 9, 14, 15], [0, 7, 8, 9, 14, 15], [0], [4], []]).1
noncomputable def RL82 : List Nat := cellsOf Try.f82.results.toList
noncomputable def R82_16 (self : EV) (N : Nat) (nk : Ac → St → Rs) (ek : Nat → Ac → St → Rs) (a : Ac) (S : St) : Rs := projK [] a fun a => dr E0 self RL82 N (B82.r.l.r.r.r.l).r (mkK E0 self Try.f82 nk ek) a S
theorem R82_16_eq (self : EV) (N : Nat) (nk : Ac → St → Rs) (ek : Nat → Ac → St → Rs) (S : St) : R82_16 self N nk ek (fr 187 []) S =
some (.ret (.int .i64 (-1)), S) := by kernel_rfl
noncomputable def L82_20 (self : EV) (N : Nat) (nk : Ac → St → Rs) (ek : Nat → Ac → St → Rs) (n : Nat) ( v175 : V) (S : St) : Rs := loopK [175] (dr E0 self RL82 N (B82.r.l.r.r.r.l.l.r.l.l)) (mkK E0 self Try.f82 nk ek) n (fr 187 [(175, v175)]) S
theorem L82_20_eq (self : EV) (N : Nat) (nk : Ac → St → Rs) (ek : Nat → Ac → St → Rs) (n : Nat) ( v175 : V) (S : St) : L82_20 self N nk ek (n + 1) v175 S =
(nextK v175 true S).bind fun p21 =>
(extractV p21.1 0).bind fun t22 =>
ifK t22 (
(extractV p21.1 1).bind fun t23 =>
(extractV p21.1 2).bind fun t24 =>
(binV E0 .eql 21 false true t24 (.int .i32 65533)).bind fun t28 =>
ifK t28 (
some (.ret t23, p21.2)) (
L82_20 self N nk ek n v175 p21.2)) (
ek 9 (fr 187 []) p21.2) := by kernel_rfl
noncomputable def R82_46 (self : EV) (N : Nat) (nk : Ac → St → Rs) (ek : Nat → Ac → St → Rs) (a : Ac) (S : St) : Rs := projK [] a fun a => dr E0 self RL82 N (B82.r.l.r.r.r.r.r.r.l.r.r.r.r).r (mkK E0 self Try.f82 nk ek) a S
theorem R82_46_eq (self : EV) (N : Nat) (nk : Ac → St → Rs) (ek : Nat → Ac → St → Rs) (S : St) : R82_46 self N nk ek (fr 187 []) S =
some (.ret (.int .i64 (-1)), S) := by kernel_rfl
noncomputable def N82_48 (self : EV) (N : Nat) (nk : Ac → St → Rs) (ek : Nat → Ac → St → Rs) (n : Nat) : Ac → St → Rs := fun a S => projK [0, 7, 8, 9] a fun a => loopK [0, 7, 8, 9] (dr E0 self RL82 N (B82.r.l.r.r.r.r.r.r.l.r.r.r.r.l.l.l)) (mkK E0 self Try.f82 nk ek) n a S
noncomputable def L82_48 (self : EV) (N : Nat) (nk : Ac → St → Rs) (ek : Nat → Ac → St → Rs) (n : Nat) ( v0 v7 v8 v9 : V) (S : St) : Rs := loopK [0, 7, 8, 9] (dr E0 self RL82 N (B82.r.l.r.r.r.r.r.r.l.r.r.r.r.l.l.l)) (mkK E0 self Try.f82 nk ek) n (fr 187 [(0, v0), (7, v7), (8, v8), (9, v9)]) S
noncomputable def R82_53 (self : EV) (N : Nat) (nk : Ac → St → Rs) (ek : Nat → Ac → St → Rs) (a : Ac) (S : St) : Rs := projK [0, 7, 8, 9] a fun a => dr E0 self RL82 N (B82.r.l.r.r.r.r.r.r.l.r.r.r.r.l.l.l.r.l.l).r (mkK E0 self Try.f82 nk ek) a S
theorem L82_48_eq (self : EV) (N : Nat) (nk : Ac → St → Rs) (ek : Nat → Ac → St → Rs) (n : Nat) ( v0 v7 v8 v9 : V) (S : St) : L82_48 self N nk ek (n + 1) v0 v7 v8 v9 S =
(lnStr v0 S).bind fun p51 =>
(binV E0 .lss 3 false false v9 p51.1).bind fun t52 =>
ifK t52 (
(ixS v0 v9).bind fun t81 =>
(ixS v7 v8).bind fun t84 =>
(binV E0 .neq 5 false false t81 t84).bind fun t85 =>
ifK t85 (
(binV E0 .add 3 false true v9 (.int .i64 1)).bind fun t88 =>
(sliceV E0 9 v0 (some t88) none none (onS (relog p51.2 (onS p51.2) [[], [], [], [], [], [], []]))).bind fun p89 =>
(ixS v7 v8).bind fun t92 =>
callD (planOf E0 (B82.r.l.r.r.r.r.r.r.l.r.r.r.r.l.l.l.r.l.l.l.r.l.l).ops) (relog p51.2 (onS p51.2) [[], [], [], [], [], [], []]) 7 [[], [], [], p89.2.log, [], [], []] (self.f 24 [p89.1, t92] (onS p89.2)) fun t93 S93 =>
(binV E0 .lss 3 false true t93 (.int .i64 0)).bind fun t96 =>
ifK t96 (
some (.ret (.int .i64 (-1)), (relog (relog p51.2 (onS p51.2) [[], [], [], [], [], [], []]) (onS S93) [[], [], [], p89.2.log, [], [], [], S93.log, []]))) (
(binV E0 .add 3 false true t93 (.int .i64 1)).bind fun t100 =>
(binV E0 .add 3 false false v9 t100).bind fun t101 =>
R82_53 self N (N82_48 self N nk ek n) (exB 2 (N82_48 self N nk ek n) ek) (fr 187 [(0, v0), (7, v7), (8, v8), (9, t101)]) (relog (relog p51.2 (onS p51.2) [[], [], [], [], [], [], []]) (onS S93) [[], [], [], p89.2.log, [], [], [], S93.log, []]))) (
R82_53 self N (N82_48 self N nk ek n) (exB 2 (N82_48 self N nk ek n) ek) (fr 187 [(0, v0), (7, v7), (8, v8), (9, v9)]) (relog p51.2 (onS p51.2) [[], [], [], [], [], [], []]))) (
ek 1 (fr 187 []) p51.2) := by kernel_rfl
noncomputable def F82 (self : EV) (N : Nat) (x0 x1 : V) (S : St) : Rs := runF E0 self N Try.f82 B82 [x0, x1] S
theorem F82_eq (self : EV) (N : Nat) (x0 x1 : V) (S : St) : F82 self N x0 x1 S =
(binV E0 .leq 21 true false (.int .i32 0) x1).bind fun t2 =>
(guardV true t2).bind fun g4 => (bif g4 then some x1 else some (.tuple [])).bind fun t4 =>
(guardV true t2).bind fun g5 => (bif g5 then binV E0 .lss 21 false true t4 (.int .i32 128) else some (.tuple [])).bind fun t5 =>
(pickV t2 (some t5) (some (.bool false))).bind fun t6 =>
ifK t6 (
(cvI .u8 x1 S).bind fun p10 =>
callP (self.f 24 [x0, p10.1] p10.2) fun t11 S11 =>
some (.ret t11, S11)) (
(binV E0 .eql 21 false true x1 (.int .i32 65533)).bind fun t14 =>
ifK t14 (
(rangeStrK E0 9 x0 S).bind fun p19 =>
L82_20 self N (R82_16 self N (finN E0 self Try.f82) (exB 0 (finN E0 self Try.f82) noEx)) (exB 9 (R82_16 self N (finN E0 self Try.f82) (exB 0 (finN E0 self Try.f82) noEx)) (exB 0 (finN E0 self Try.f82) noEx)) N p19.1 p19.2) (
callP (self.f 97 [x1] S) fun t32 S32 =>
(unV .not t32).bind fun t33 =>
ifK t33 (
some (.ret (.int .i64 (-1)), S32)) (
(convertV E0 21 9 x1 S32).bind fun p37 =>
(lnStr p37.1 p37.2).bind fun p40 =>
(binV E0 .sub 3 false true p40.1 (.int .i64 1)).bind fun t41 =>
L82_48 self N (R82_46 self N (finN E0 self Try.f82) (exB 0 (finN E0 self Try.f82) noEx)) (exB 1 (R82_46 self N (finN E0 self Try.f82) (exB 0 (finN E0 self Try.f82) noEx)) (exB 0 (finN E0 self Try.f82) noEx)) N x0 p37.1 t41 t41 p40.2))) := by kernel_rfl
noncomputable def C83 : Code := Try.f83.body.getD .skip
noncomputable def B83 : D := (annot C83 [[], []]).1
noncomputable def F83 (self : EV) (N : Nat) (x0 : V) (S : St) : Rs := runF E0 self N Try.f83 B83 [x0] S
theorem F83_eq (self : EV) (N : Nat) (x0 : V) (S : St) : F83 self N x0 S =
(binV E0 .gtr 3 false true x0 (.int .i64 8)).bind fun t2 =>
some (.ret t2, S) := by kernel_rfl
noncomputable def C84 : Code := Try.f84.body.getD .skip
noncomputable def B84 : D := (annot C84 [[], [], [0, 2, 4], [], [2], [], [], [], [], [], [], [0, 2], [2, 3], []]).1
noncomputable def RL84 : List Nat := cellsOf Try.f84.results.toList
noncomputable def R84_2 (self : EV) (N : Nat) (nk : Ac → St → Rs) (ek : Nat → Ac → St → Rs) (a : Ac) (S : St) : Rs := projK [2] a fun a => dr E0 self RL84 N (B84.r).r (mkK E0 self Try.f84 nk ek) a S
theorem R84_2_eq (self : EV) (N : Nat) (nk : Ac → St → Rs) (ek : Nat → Ac → St → Rs) ( v2 : V) (S : St) : R84_2 self N nk ek (fr 21 [(2, v2)]) S =
(ldA 256 v2 S).bind fun p3 =>
(stP 256 v2 p3.1 p3.2).bind fun p4 =>
(ldrA 256 v2 p4.2).bind fun p6 =>
some (.ret (.tuple [p6.1, (.bool true)]), p6.2) := by kernel_rfl
noncomputable def L84_8 (self : EV) (N : Nat) (nk : Ac → St → Rs) (ek : Nat → Ac → St → Rs) (n : Nat) ( v0 v2 v4 : V) (S : St) : Rs := loopK [0, 2, 4] (dr E0 self RL84 N (B84.r.l.r.l.l)) (mkK E0 self Try.f84 nk ek) n (fr 21 [(0, v0), (2, v2), (4, v4)]) S
theorem L84_8_eq (self : EV) (N : Nat) (nk : Ac → St → Rs) (ek : Nat → Ac → St → Rs) (n : Nat) ( v0 v2 v4 : V) (S : St) : L84_8 self N nk ek (n + 1) v0 v2 v4 S =
(lnStr v0 S).bind fun p11 =>
(binV E0 .lss 3 false false v4 p11.1).bind fun t12 =>
ifK t12 (
(ixS v0 v4).bind fun t15 =>
(binV E0 .geq 5 false true t15 (.int .u8 128)).bind fun t18 =>
ifK t18 (
(ldA 256 v2 p11.2).bind fun p19 =>
(stP 256 v2 p19.1 p19.2).bind fun p20 =>
(ldrA 256 v2 p20.2).bind fun p22 =>
some (.ret (.tuple [p22.1, (.bool false)]), p22.2)) (
(ixA 256 1 false 1 v2 t15).bind fun t24 =>
(stP 1 t24 (.bool true) p11.2).bind fun p25 =>
(binV E0 .add 3 false true v4 (.int .i64 1)).bind fun t27 =>
L84_8 self N nk ek n v0 v2 t27 p25.2)) (
ek 0 (fr 21 [(2, v2)]) p11.2) := by kernel_rfl
noncomputable def F84 (self : EV) (N : Nat) (x0 : V) (S : St) : Rs := runF E0 self N Try.f84 B84 [x0] S
noncomputable def C85 : Code := Try.f85.body.getD .skip
noncomputable def B85 : D := (annot C85 [[], []]).1
noncomputable def F85 (self : EV) (N : Nat) (x0 x1 : V) (S : St) : Rs := runF E0 self N Try.f85 B85 [x0, x1] S
theorem F85_eq (self : EV) (N : Nat) (x0 x1 : V) (S : St) : F85 self N x0 x1 S =
(nilCheckV x0).bind fun t3 =>
(ixA 256 1 false 1 t3 x1).bind fun t4 =>
(ld1 t4 S).bind fun p5 =>
some (.ret p5.1, p5.2) := by kernel_rfl
noncomputable def C97 : Code := Try.f97.body.getD .skip
noncomputable def B97 : D := (annot C97 [[], [], [], [], [], [], []]).1
noncomputable def F97 (self : EV) (N : Nat) (x0 : V) (S : St) : Rs := runF E0 self N Try.f97 B97 [x0] S
theorem F97_eq (self : EV) (N : Nat) (x0 : V) (S : St) : F97 self N x0 S =
(binV E0 .leq 21 true false (.int .i32 0) x0).bind fun t2 =>
(guardV true t2).bind fun g4 => (bif g4 then some x0 else some (.tuple [])).bind fun t4 =>
(guardV true t2).bind fun g5 => (bif g5 then binV E0 .lss 21 false true t4 (.int .i32 55296) else some (.tuple [])).bind fun t5 =>
(pickV t2 (some t5) (some (.bool false))).bind fun t6 =>
ifK t6 (
some (.ret (.bool true), S)) (
(binV E0 .lss 21 true false (.int .i32 57343) x0).bind fun t10 =>
(guardV true t10).bind fun g12 => (bif g12 then some x0 else some (.tuple [])).bind fun t12 =>
(guardV true t10).bind fun g13 => (bif g13 then binV E0 .leq 21 false true t12 (.int .i32 1114111) else some (.tuple [])).bind fun t13 =>
(pickV t10 (some t13) (some (.bool false))).bind fun t14 =>
ifK t14 (
some (.ret (.bool true), S)) (
some (.ret (.bool false), S))) := by kernel_rfl
end
end Go.Proofs.Ytbihlgcdnhoknaa.W
namespace Go.Proofs.Ytbihlgcdnhoknaa.W
open Go.Proofs.Ytbihlgcdnhoknaa.Ev
theorem E0_ok : EnvOk Try.prog E0 := envOf_ok (by kernel_rfl) (by kernel_rfl) (by kernel_rfl) (fun p hp => by
 simp only [List.mem_cons, List.not_mem_nil, or_false] at hp
 rcases hp with rfl
 exact ⟨fun _ args w => by kernel_rfl, fun h => absurd h (by decide), fun h => absurd h (by decide), fun h => absurd h (by decide), fun h => absurd h (by decide)⟩
 ) (by kernel_rfl) (by kernel_rfl) (by kernel_rfl)
inductive Nd where
 | mk (name : List UInt8) (kind : Int) (exec : Bool) (data : List UInt8) (kids : List Nd)
def Nd.name : Nd → List UInt8 | .mk n _ _ _ _ => n
def Nd.kind : Nd → Int | .mk _ k _ _ _ => k
def Nd.exec : Nd → Bool | .mk _ _ e _ _ => e
def Nd.data : Nd → List UInt8 | .mk _ _ _ d _ => d
def Nd.kids : Nd → List Nd | .mk _ _ _ _ l => l
mutual
def cntN : Nd → Nat
 | .mk _ _ _ _ l => 1 + cntL l
def cntL : List Nd → Nat
 | [] => 0
 | x :: l => cntN x + cntL l
end
mutual
def Nd.ok : Nd → Prop
 | .mk n k _ d l => n.length < 9223372036854775808 ∧ (-9223372036854775808 ≤ k ∧ k < 9223372036854775808) ∧ d.length ≤ 3000 ∧ l.length ≤ 3000 ∧ 1 + cntL l < 4611686018427387904 ∧ okL l
def okL : List Nd → Prop
 | [] => True
 | x :: l => x.ok ∧ okL l
end
theorem okL_iff : ∀ l : List Nd, okL l ↔ ∀ x ∈ l, x.ok
 | [] => by simp [okL]
 | x :: l => by simp [okL, okL_iff l]
structure NdOk (x : Nd) : Prop where
 name : x.name.length < 9223372036854775808
 kind : -9223372036854775808 ≤ x.kind ∧ x.kind < 9223372036854775808
 data : x.data.length ≤ 3000
 few : x.kids.length ≤ 3000
 cnt : 1 + cntL x.kids < 4611686018427387904
 kids : ∀ y ∈ x.kids, y.ok
theorem Nd.ok.at {x : Nd} (h : x.ok) : NdOk x := by
 cases x with
 | mk n k e d l =>
  rw [Nd.ok] at h
  obtain ⟨h1, h2, h3, h4, hc, h5⟩ := h
  exact ⟨h1, h2, h3, h4, hc, (okL_iff l).1 h5⟩
section
variable {s : St}
variable {b : Nat} {x : Nd}
end
end Go.Proofs.Ytbihlgcdnhoknaa.W
namespace Go.Proofs.Ytbihlgcdnhoknaa.W
open Go.Proofs.Ytbihlgcdnhoknaa.Ev
theorem drop_at {α : Type} {l r : List α} {i : Nat} {y : α} (h : l.drop i = y :: r) : ∃ hlt : i < l.length, l[i] = y ∧ l.drop (i + 1) = r ∧ y ∈ l := by
 have hlt : i < l.length := by
  rcases Nat.lt_or_ge i l.length with h' | h'
  · exact h'
  · rw [List.drop_eq_nil_of_le h'] at h; cases h
 rw [List.drop_eq_getElem_cons hlt] at h
 simp only [List.cons.injEq] at h
 exact ⟨hlt, h.1, h.2, h.1 ▸ List.getElem_mem hlt⟩
theorem drop_end {α : Type} {l : List α} {i : Nat} (h : l.drop i = []) : l.length ≤ i := List.drop_eq_nil_iff.1 h
theorem dec_lt {a b : Nat} (h : a < b) : decide ((a : Int) < (b : Int)) = true := by simp; omega
theorem dec_ge {a b : Nat} (h : b ≤ a) : decide ((a : Int) < (b : Int)) = false := by simp; omega
theorem wrap_succ {i : Nat} (h : i < 9223372036854775807) : IntKind.i64.wrap ((i : Int) + 1) = ((i + 1 : Nat) : Int) := by
 rw [wrap_i64 (by omega) (by omega)]; omega
end Go.Proofs.Ytbihlgcdnhoknaa.W
namespace Go.Proofs.Ytbihlgcdnhoknaa.W
open Go.Proofs.Ytbihlgcdnhoknaa.Ev
def badByte (c : UInt8) : Bool := c == 47 || c == 0
theorem u8_eq (c d : UInt8) : (c == d) = decide ((c.toNat : Int) = (d.toNat : Int)) := by
 rw [Bool.eq_iff_iff]
 simp only [beq_iff_eq, decide_eq_true_eq]
 constructor
 · rintro rfl; rfl
 · intro h; exact UInt8.toNat_inj.1 (by omega)
structure TextIn where
 s : List UInt8
 hs : s.length < 9223372036854775808
end Go.Proofs.Ytbihlgcdnhoknaa.W
namespace Go.Proofs.Ytbihlgcdnhoknaa.W
open Go.Proofs.Ytbihlgcdnhoknaa.Ev
section
variable {s : St}
def AgAt (s : St) (b e z : Nat) (t : Tr V) : Prop := ∃ c, s.heap.get b = some (.cells e z 1 false c) ∧ c.get 0 = some t
theorem ag_new (ho : s.on = false) (e z : Nat) (t : Tr V) : AgAt (nwP e z t s).2 s.next e z t ∧ Grew (fun _ => False) s (nwP e z t s).2 ∧ (nwP e z t s).2.next = s.next + 1 := by
 refine ⟨⟨Tr.ofListFrom .nil [t] 0, ?_, by rw [Tr.get_ofList]; rfl⟩, grew_nw ho _ _, rfl⟩
 show (newCells s e z [t]).heap.get s.next = _
 unfold newCells
 rw [nw_get, if_pos rfl]; rfl
theorem AgAt.ldk (ho : s.on = false) {b e z : Nat} {t : Tr V} (h : AgAt s b e z t) (hz : z < big) : ldK s b 0 z = some (t, s) := by
 obtain ⟨c, h1, h2⟩ := h
 unfold ldK
 rw [h1]
 simp only [ble_true.2 (show 0 + z ≤ z * 1 by omega), blt_true.2 (show z * 1 < big by omega), Bool.and_self, cond_true]
 unfold elemIn
 rw [show Nat.beq z z = true from beq_true.2 rfl, Nat.zero_mod, show Nat.beq 0 0 = true from rfl]
 simp only [Bool.and_self, cond_true, Nat.zero_div, h2, oB, note_off ho]
theorem AgAt.ldA (ho : s.on = false) {b e z : Nat} {t : Tr V} (h : AgAt s b e z t) (hz : z < big) : Go.Proofs.Ytbihlgcdnhoknaa.Ev.ldA z (.ptr b 0) s = some (.agg z t, s) := by
 show ((ldK s b 0 z).bind fun p => some (V.agg z p.1, p.2)) = _
 rw [h.ldk ho hz]; rfl
theorem AgAt.ldrA (ho : s.on = false) {b e z : Nat} {t : Tr V} (h : AgAt s b e z t) (hz : z < big) : Go.Proofs.Ytbihlgcdnhoknaa.Ev.ldrA z (.ptr b 0) s = some (.agg z t, s) := by
 show ((ldK s b 0 z).bind fun p => some (V.agg z p.1, p.2)) = _
 rw [h.ldk ho hz]; rfl
theorem AgAt.stA (ho : s.on = false) {b e z : Nat} {t : Tr V} (h : AgAt s b e z t) (hz : z < big) (u : Tr V) : ∃ w, stP z (.ptr b 0) (.agg z u) s = some (.tuple [], w) ∧ AgAt w b e z u ∧ Grew (fun x => x = b) s w ∧ w.next = s.next := by
 obtain ⟨c, h1, h2⟩ := h
 refine ⟨s.put b (.cells e z 1 false (c.set u 0)), ?_, ⟨c.set u 0, by rw [put_get, if_pos rfl], by rw [Tr.get_set, if_pos rfl]⟩, grew_put b _, rfl⟩
 show vu (bif Nat.beq z z && !false then stK s b 0 z u else none) = _
 rw [show Nat.beq z z = true from beq_true.2 rfl]
 simp only [Bool.not_false, Bool.and_self, cond_true]
 have : stK s b 0 z u = some (s.put b (.cells e z 1 false (c.set u 0))) := by
  unfold stK
  rw [h1]
  simp only [ble_true.2 (show 0 + z ≤ z * 1 by omega), blt_true.2 (show z * 1 < big by omega), Bool.and_self, Bool.not_false, cond_true]
  unfold elemTo
  rw [show Nat.beq z z = true from beq_true.2 rfl, Nat.zero_mod, show Nat.beq 0 0 = true from rfl]
  simp only [Bool.and_self, cond_true, Nat.zero_div, Tr.setC_eq, oB, note_off ho]
 rw [this]; rfl
theorem AgAt.ld1 (ho : s.on = false) {b e z i : Nat} {t : Tr V} {v : V} (h : AgAt s b e z t) (hz : z < big) (hi : i < z) (hv : t.get i = some v) : Go.Proofs.Ytbihlgcdnhoknaa.Ev.ld1 (.ptr b i) s = some (v, s) := by
 obtain ⟨c, h1, h2⟩ := h
 show ld s b i = _
 exact ld_of ho h1 (by omega) (by omega) (by rw [cellOf_zero hi, h2]; exact hv)
theorem AgAt.st1 (ho : s.on = false) {b e z i : Nat} {t : Tr V} (h : AgAt s b e z t) (hz : z < big) (h1z : 1 < z) (hi : i < z) (v : V) (hs : v.size = 1) (hc : v.cells = one v) (hv : isTuple v = false) : ∃ w, stP 1 (.ptr b i) v s = some (.tuple [], w) ∧ AgAt w b e z (t.set v i) ∧ Grew (fun x => x = b) s w ∧ w.next = s.next := by
 obtain ⟨c, h1, h2⟩ := h
 refine ⟨s.put b (.cells e z 1 false (c.set (t.set v i) 0)), ?_, ⟨c.set (t.set v i) 0, by rw [put_get, if_pos rfl], by rw [Tr.get_set, if_pos rfl]⟩, grew_put b _, rfl⟩
 show vu (bif Nat.beq v.size 1 && !isTuple v then stK s b i 1 v.cells else none) = _
 rw [hs, hv, hc]
 simp only [show Nat.beq 1 1 = true from rfl, Bool.not_false, Bool.and_self, cond_true]
 have : stK s b i 1 (one v) = some (s.put b (.cells e z 1 false (c.set (t.set v i) 0))) := by
  unfold stK
  rw [h1]
  simp only [ble_true.2 (show i + 1 ≤ z * 1 by omega), blt_true.2 (show z * 1 < big by omega), Bool.and_self, Bool.not_false, cond_true]
  unfold elemTo
  rw [show Nat.beq 1 z = false from beq_false.2 (by omega)]
  simp only [Bool.false_and, cond_false, cellsTo, show (one v).get 0 = some v from rfl, oB, Nat.add_zero, Nat.div_eq_of_lt hi, Nat.mod_eq_of_lt hi, h2, Tr.setC_eq, note_off ho]
 rw [this]; rfl
end
def ixB (l : List UInt8) (c : UInt8) : Int := match l.findIdx? (fun x => x == c) with | some i => (i : Int) | none => -1
structure ByteIn where
 s : List UInt8
 c : UInt8
noncomputable def kfIndexByte : KF := specKF (fun p : ByteIn => [sv p.s, .int .u8 (p.c.toNat : Int)]) (fun p => En.ret (.int .i64 (ixB p.s p.c)))
theorem kfIndexByte_run (s : List UInt8) (c : UInt8) (S : St) : kfIndexByte.run [sv s, .int .u8 (c.toNat : Int)] S = some (.ret (.int .i64 (ixB s c)), S) :=
 specKF_run (enc := fun p : ByteIn => [sv p.s, .int .u8 (p.c.toNat : Int)]) (out := fun p => En.ret (.int .i64 (ixB p.s p.c))) (fun p q h => by
  simp only [List.cons.injEq, V.int.injEq, true_and, and_true] at h
  rw [sv_inj h.1, UInt8.toNat_inj.1 (show p.c.toNat = q.c.toNat by omega)]) ⟨s, c⟩ S
theorem toNat_ofNat {n : Nat} (h : n < 256) : (UInt8.ofNat n).toNat = n := by simp [UInt8.toNat_ofNat']; omega
theorem extV_one (l n c : Nat) (S : St) : extV 1 [.str l n, .int .u8 (.ofNat c)] S = bif Nat.blt c 256 then match indexByte c l 0 n with
 | some i => some (.val (.int .i64 (.ofNat i)) S)
 | none => some (.val (.int .i64 (-1)) S)
 else none := rfl
theorem callK_ext {E : Env} {self : EV} {f k : Nat} (h : E.ext.get f = some k) (x y args : List V) (S : St) : callK E self (.fn (.func f) x y) args S = (extV k (x ++ args ++ y) S).bind fun
 | .val v s => some (.ret v, s)
 | _ => none := by
 show (match E.ext.get f with | some k => _ | none => _) = _
 rw [h]
 rfl
theorem ext76 : E0.ext.get 77 = some 1 := by kernel_rfl
theorem ext_ixB (s : List UInt8) (c : UInt8) (S : St) : extV 1 [sv s, .int .u8 (c.toNat : Int)] S = some (.val (.int .i64 (ixB s c)) S) := by
 have h1 : extV 1 [sv s, .int .u8 (c.toNat : Int)] S = bif Nat.blt c.toNat 256 then match indexByte c.toNat s.length 0 (pack s) with
  | some i => some (.val (.int .i64 (.ofNat i)) S)
  | none => some (.val (.int .i64 (-1)) S)
  else none := extV_one _ _ _ _
 rw [h1, blt_true.2 c.toNat_lt, indexByte_spec, ixB]
 cases s.findIdx? (fun x => x == c) with
 | none => rfl
 | some i => rfl
theorem call76 (self : EV) (s : List UInt8) (c : UInt8) (S : St) : callK E0 self (.fn (.func 77) [] []) [sv s, .int .u8 (c.toNat : Int)] S = some (.ret (.int .i64 (ixB s c)), S) := by
 have h := callK_ext (E := E0) (self := self) ext76 [] [] [sv s, .int .u8 (c.toNat : Int)] S
 have h2 := ext_ixB s c S
 rw [List.nil_append, List.append_nil, h2] at h
 exact h
theorem F73_of (self : EV) (N : Nat) (s : V) (c : UInt8) (S : St) (v : V) (h : callK E0 self (.fn (.func 77) [] []) [s, .int .u8 (c.toNat : Int)] S = some (.ret v, S)) : F56 self N s (.int .u8 (c.toNat : Int)) S = some (.ret v, S) := by
 rw [F56_eq, h, callP_ret]
theorem F73_spec (self : EV) (N : Nat) (s : List UInt8) (c : UInt8) (S : St) : F56 self N (sv s) (.int .u8 (c.toNat : Int)) S = some (.ret (.int .i64 (ixB s c)), S) :=
 F73_of self N (sv s) c S (.int .i64 (ixB s c)) (call76 self s c S)
theorem kn63 {K : FuncId → Option KF} (hK : KnOk Try.prog E0 K) (h73 : K 56 = none) : KnWell Try.prog E0 24 kfIndexByte :=
 specKF_text (fn := Try.f24) (c := C24) (d := B24) E0_ok hK (by kernel_rfl) (by kernel_rfl) (annot_isOf C24 _ (by kernel_rfl)) fun p S ho => by
  refine ⟨1, .ret (.int .i64 (ixB p.s p.c)), S, (?_ : F24 (ev E0 K 1) rounds (sv p.s) (.int .u8 (p.c.toNat : Int)) S = _), Grew.refl _ _, Fz.same (.int _ _)⟩
  rw [F24_eq, ev_read (c := C56) (d := B56) (by kernel_rfl) (by kernel_rfl) (annot_isOf C56 _ (by kernel_rfl)) h73 (F73_spec (ev E0 K 0) rounds p.s p.c S)]
  rfl
theorem F82_spec (self : EV) (N : Nat) (r : Nat) (S : St) : ∃ v : Bool, F97 self N (.int .i32 (r : Int)) S = some (.ret (.bool v), S) := by
 rw [F97_eq, binV_ii, intsV_leq, show decide ((0 : Int) ≤ (r : Int)) = true by simp]
 simp only [oB, guardV_t, cond_true, binV_ii]
 rw [intsV_lss, intsV_lss]
 generalize decide ((r : Int) < 55296) = b1
 generalize decide ((57343 : Int) < (r : Int)) = b2
 cases b1 with
 | true => exact ⟨true, rfl⟩
 | false =>
  cases b2 with
  | false => exact ⟨false, rfl⟩
  | true =>
   simp only [cond_true, cond_false, oB, binV_ii, ifK_bool, pickV, guardV_t]
   rw [intsV_leq]
   generalize decide ((r : Int) ≤ 1114111) = b3
   cases b3
   · exact ⟨false, rfl⟩
   · exact ⟨true, rfl⟩
def bad2 : List UInt8 := [47, 0]
def ixR (r : Nat) : Int := if r = 47 then 0 else if r = 0 then 1 else -1
theorem ixB_bad2 (c : UInt8) : ixB bad2 c = ixR c.toNat := by
 unfold ixB bad2 ixR
 by_cases h1 : c = 47
 · subst h1; rfl
 · by_cases h2 : c = 0
   · subst h2; rfl
   · have h3 : ¬ c.toNat = 47 := fun h => h1 (UInt8.toNat_inj.1 h)
     have h4 : ¬ c.toNat = 0 := fun h => h2 (UInt8.toNat_inj.1 h)
     rw [if_neg h3, if_neg h4]
     have h5 : ((47 : UInt8) == c) = false := by simpa using fun h => h1 h.symm
     have h6 : ((0 : UInt8) == c) = false := by simpa using fun h => h2 h.symm
     simp [List.findIdx?_cons, h5, h6]
theorem enc_last (r : Nat) (h : 128 ≤ r) : ∃ a l, (Utf8.encode (r : Int)).data.toList = a ++ [l] ∧ 1 ≤ a.length ∧ a.length ≤ 3 ∧ 128 ≤ l.toNat := by
 unfold Utf8.encode
 have hc : 128 ≤ (if Utf8.valid (r : Int) then (r : Int).toNat else Utf8.runeError) := by
  split
  · simpa using h
  · decide
 generalize (if Utf8.valid (r : Int) then (r : Int).toNat else Utf8.runeError) = c at hc
 have hl : ∀ c : Nat, 128 ≤ (UInt8.ofNat (0x80 + c % 64)).toNat := fun c => by rw [toNat_ofNat (by omega)]; omega
 simp only
 rw [if_neg (by omega)]
 split
 · exact ⟨[_], _, rfl, by simp, by simp, hl c⟩
 · split
   · exact ⟨[_, _], _, rfl, by simp, by simp, hl c⟩
   · exact ⟨[_, _, _], _, rfl, by simp, by simp, hl c⟩
end Go.Proofs.Ytbihlgcdnhoknaa.W
namespace Go.Proofs.Ytbihlgcdnhoknaa.W
open Go.Proofs.Ytbihlgcdnhoknaa.Ev
theorem und9 : und E0 9 = some .string := by kernel_rfl
theorem und21 : und E0 21 = some (.int .i32) := by kernel_rfl
section
variable {s : St}
theorem nextK_at (ho : s.on = false) {b l n pos : Nat} (h : s.heap.get b = some (.siter l n pos)) (hlt : pos < l) : nextK (.ptr b 0) true s = some (.tuple [.bool true, .int .i64 (pos : Int), .int .i32 ((decP l n pos).1 : Int)], s.put b (.siter l n (pos + (decP l n pos).2))) := by
 unfold nextK getO
 simp only [cond_true, show Nat.beq 0 0 = true from rfl, h, oB, note_off ho, blt_true.2 hlt]
 unfold setO
 rw [note_off ho]; rfl
theorem nextK_end (ho : s.on = false) {b l n pos : Nat} (h : s.heap.get b = some (.siter l n pos)) (hge : l ≤ pos) : nextK (.ptr b 0) true s = some (.tuple [.bool false], s) := by
 unfold nextK getO
 have hb : Nat.blt pos l = false := by
  cases hc : Nat.blt pos l with
  | false => rfl
  | true => rw [blt_true] at hc; omega
 simp only [cond_true, show Nat.beq 0 0 = true from rfl, h, oB, note_off ho, hb, cond_false]
theorem rangeStr_sv (l : List UInt8) : rangeStrK E0 9 (sv l) s = some (.ptr s.next 0, nw s (.siter l.length (pack l) 0)) := by
 unfold rangeStrK
 rw [und9]; rfl
theorem put_on {b : Nat} {o : O} (ho : s.on = false) : (s.put b o).on = false := ho
end
theorem dec_bad0 : decP 2 (pack bad2) 0 = (47, 1) := by decide +kernel
theorem dec_bad1 : decP 2 (pack bad2) 1 = (0, 1) := by decide +kernel
theorem L78_bad (self : EV) (N : Nat) (nk : Ac → St → Rs) (ek : Nat → Ac → St → Rs) (n : Nat) (b : Nat) (S : St) (ho : S.on = false) (h : S.heap.get b = some (.siter 2 (pack bad2) 0)) (hb : b < S.next) :
 ∃ S', L82_20 self N nk ek (n + 3) (.ptr b 0) S = ek 9 (fr 187 []) S' ∧ Grew (fun x => x = b) S S' := by
 have g0 : (S.put b (.siter 2 (pack bad2) (0 + (decP 2 (pack bad2) 0).2))).heap.get b = some (.siter 2 (pack bad2) 1) := by rw [put_get, if_pos rfl, dec_bad0]; rfl
 have g1 : ((S.put b (.siter 2 (pack bad2) (0 + (decP 2 (pack bad2) 0).2))).put b (.siter 2 (pack bad2) (1 + (decP 2 (pack bad2) 1).2))).heap.get b = some (.siter 2 (pack bad2) 2) := by rw [put_get, if_pos rfl, dec_bad1]; rfl
 refine ⟨_, ?_, (grew_put (s := S) b (.siter 2 (pack bad2) (0 + (decP 2 (pack bad2) 0).2))).trans (grew_put b (.siter 2 (pack bad2) (1 + (decP 2 (pack bad2) 1).2)))⟩
 rw [L82_20_eq, nextK_at ho h (by omega), dec_bad0]
 simp only [oB, extractV, List.getElem?_cons_zero, List.getElem?_cons_succ, ifK_bool, cond_true, binV_ii]
 rw [intsV_eql, show decide (((47 : Nat) : Int) = 65533) = false by decide]
 simp only [oB, ifK_bool, cond_false]
 rw [dec_bad0] at g0 g1
 rw [L82_20_eq, nextK_at (put_on ho) g0 (by omega), dec_bad1]
 simp only [oB, extractV, List.getElem?_cons_zero, List.getElem?_cons_succ, ifK_bool, cond_true, binV_ii]
 rw [intsV_eql, show decide (((0 : Nat) : Int) = 65533) = false by decide]
 simp only [oB, ifK_bool, cond_false]
 rw [dec_bad1] at g1
 rw [L82_20_eq, nextK_end (put_on (put_on ho)) g1 (by omega)]
 simp only [oB, extractV, List.getElem?_cons_zero, ifK_bool, cond_false]
theorem L78_enc (self : EV) (N : Nat) (nk : Ac → St → Rs) (ek : Nat → Ac → St → Rs) (n : Nat) (a : List UInt8) (l : UInt8) (h1 : 1 ≤ a.length) (h3 : a.length ≤ 3) (hl : 128 ≤ l.toNat) (S : St) (ho : S.on = false)
 (h63 : ∀ (s : List UInt8) (c : UInt8) S, self.f 24 [sv s, .int .u8 (c.toNat : Int)] S = some (.ret (.int .i64 (ixB s c)), S)) :
 L82_48 self N nk ek (n + 1) (sv bad2) (sv (a ++ [l])) (.int .i64 (a.length : Int)) (.int .i64 (a.length : Int)) S = some (.ret (.int .i64 (-1)), S) ∨ L82_48 self N nk ek (n + 1) (sv bad2) (sv (a ++ [l])) (.int .i64 (a.length : Int)) (.int .i64 (a.length : Int)) S = ek 1 (fr 187 []) S := by
 rw [L82_48_eq]
 simp only [lnStr_sv, oB, binV_ii, intsV_lss, show bad2.length = 2 from rfl]
 by_cases h2 : a.length = 1
 · left
   have hlast : (a ++ [l])[1]'(by simp; omega) = l := by rw [List.getElem_append_right (by omega)]; simp [h2]
   rw [h2]
   simp only [show decide (((1 : Nat) : Int) < ((2 : Nat) : Int)) = true by decide, ifK_bool, cond_true, ixS_sv bad2 .i64 1 (by decide), ixS_sv (a ++ [l]) .i64 1 (by simp; omega), hlast, oB, binV_ii, intsV_neq, relog_onS ho]
   have hne : decide (((bad2[1]'(by decide)).toNat : Int) = (l.toNat : Int)) = false := by
    rw [decide_eq_false_iff_not]
    show ¬ ((0 : Nat) : Int) = (l.toNat : Int)
    omega
   rw [hne]
   simp only [Bool.not_false, cond_true, intsV_add, oB]
   rw [show IntKind.i64.wrap (((1 : Nat) : Int) + 1) = ((2 : Nat) : Int) by decide, slice_sv und9 bad2 (bounds_lo .i64 (show 2 ≤ bad2.length by decide)) (Nat.le_refl _)]
   simp only [oB, ixS_sv (a ++ [l]) .i64 1 (by simp; omega), hlast]
   rw [show List.take (bad2.length - 2) (List.drop 2 bad2) = [] from rfl, h63 [] l, show ixB [] l = -1 from rfl]
   simp only [callD_ret, binV_ii, intsV_lss, show decide ((-1 : Int) < 0) = true by decide, oB, ifK_bool, cond_true, relog_onS ho, onS_onS]
 · right
   rw [show decide ((a.length : Int) < ((2 : Nat) : Int)) = false by simp; omega]
   rfl
theorem convertV_rune {E : Env} {src dst : TypeId} {k k' : IntKind} (hs : und E src = some (.int k)) (hd : und E dst = some .string) (n : Int) (S : St) : convertV E src dst (.int k' n) S = some (sv (Utf8.encode n).data.toList, S) := by
 unfold convertV sv
 rw [hs, hd]
 rfl
structure RuneIn where
 r : Nat
 hr : r ≤ 1114111
noncomputable def kfIndexRune : KF := specKF (fun p : RuneIn => [sv bad2, .int .i32 (p.r : Int)]) (fun p => En.ret (.int .i64 (ixR p.r)))
theorem kfIndexRune_run (r : Nat) (hr : r ≤ 1114111) (S : St) : kfIndexRune.run [sv bad2, .int .i32 (r : Int)] S = some (.ret (.int .i64 (ixR r)), S) :=
 specKF_run (enc := fun p : RuneIn => [sv bad2, .int .i32 (p.r : Int)]) (out := fun p => En.ret (.int .i64 (ixR p.r))) (fun p q h => by
  simp only [List.cons.injEq, V.int.injEq, true_and, and_true] at h
  rw [show p.r = q.r by omega]) ⟨r, hr⟩ S
theorem F78_far (self : EV) (m : Nat) (x : V) (b1 v : Bool) (a : List UInt8) (l : UInt8) (h1 : 1 ≤ a.length) (h3 : a.length ≤ 3) (hl : 128 ≤ l.toNat) (S : St) (ho : S.on = false)
 (h63 : ∀ (s : List UInt8) (c : UInt8) S, self.f 24 [sv s, .int .u8 (c.toNat : Int)] S = some (.ret (.int .i64 (ixB s c)), S))
 (e0 : binV E0 .leq 21 true false (.int .i32 0) x = some (.bool true)) (e1 : binV E0 .lss 21 false true x (.int .i32 128) = some (.bool false)) (e2 : binV E0 .eql 21 false true x (.int .i32 65533) = some (.bool b1))
 (h82 : self.f 97 [x] S = some (.ret (.bool v), S)) (hcv : convertV E0 21 9 x S = some (sv (a ++ [l]), S)) :
 ∃ S', F82 self (m + 3) (sv bad2) x S = some (.ret (.int .i64 (-1)), S') ∧ Grew (fun _ => False) S S' := by
 rw [F82_eq, e0]
 simp only [oB, guardV_t, cond_true]
 rw [e1]
 simp only [oB, pickV, cond_true, ifK_bool, cond_false]
 rw [e2]
 cases b1 with
 | true =>
  simp only [oB, ifK_bool, cond_true, rangeStr_sv]
  have hg := grew_nw ho (fun _ => False) (.siter bad2.length (pack bad2) 0)
  obtain ⟨S', h1, h2⟩ := L78_bad self (m + 3) (R82_16 self (m + 3) (finN E0 self Try.f82) (exB 0 (finN E0 self Try.f82) noEx)) (exB 9 (R82_16 self (m + 3) (finN E0 self Try.f82) (exB 0 (finN E0 self Try.f82) noEx)) (exB 0 (finN E0 self Try.f82) noEx)) m S.next (nw S (.siter bad2.length (pack bad2) 0)) (nw_on ho _) (by rw [nw_get, if_pos rfl]; rfl) (by show S.next < S.next + 1; omega)
  refine ⟨S', ?_, hg.own (Nat.le_refl _) h2⟩
  rw [h1, exB_same, R82_16_eq]
 | false =>
  simp only [oB, ifK_bool, cond_false]
  rw [h82]
  simp only [callP_ret, unV, oB, ifK_bool]
  cases v with
  | false => exact ⟨S, rfl, Grew.refl _ _⟩
  | true =>
   refine ⟨S, ?_, Grew.refl _ _⟩
   rw [Bool.not_true, cond_false, hcv, oB, lnStr_sv, oB, binV_ii, intsV_sub]
   rw [show (((a ++ [l]).length : Nat) : Int) - 1 = (a.length : Int) by simp, wrap_i64 (by omega) (by omega), oB]
   have hL := L78_enc self (m + 3) (R82_46 self (m + 3) (finN E0 self Try.f82) (exB 0 (finN E0 self Try.f82) noEx)) (exB 1 (R82_46 self (m + 3) (finN E0 self Try.f82) (exB 0 (finN E0 self Try.f82) noEx)) (exB 0 (finN E0 self Try.f82) noEx)) (m + 2) a l h1 h3 hl S ho h63
   rcases hL with hL | hL
   · exact hL
   · exact hL.trans (by rw [exB_same, R82_46_eq])
theorem F78_spec (self : EV) (m r : Nat) (S : St) (ho : S.on = false)
 (h63 : ∀ (s : List UInt8) (c : UInt8) S, self.f 24 [sv s, .int .u8 (c.toNat : Int)] S = some (.ret (.int .i64 (ixB s c)), S))
 (h82 : ∀ S, ∃ v : Bool, self.f 97 [.int .i32 (r : Int)] S = some (.ret (.bool v), S)) :
 ∃ S', F82 self (m + 3) (sv bad2) (.int .i32 (r : Int)) S = some (.ret (.int .i64 (ixR r)), S') ∧ Grew (fun _ => False) S S' := by
 have e0 : binV E0 .leq 21 true false (.int .i32 0) (.int .i32 (r : Int)) = some (.bool true) := by rw [binV_ii, intsV_leq, show decide ((0 : Int) ≤ (r : Int)) = true by simp]
 by_cases h128 : r < 128
 · have hc : (UInt8.ofNat r).toNat = r := toNat_ofNat (by omega)
   have h := h63 bad2 (UInt8.ofNat r) S
   rw [ixB_bad2, hc] at h
   refine ⟨S, ?_, Grew.refl _ _⟩
   rw [F82_eq, e0]
   simp only [oB, guardV_t, cond_true, binV_ii, intsV_lss]
   rw [show decide ((r : Int) < 128) = true by simp; omega]
   simp only [oB, pickV, cond_true, ifK_bool, cvI_int]
   rw [wrap_u8 (by omega) (by omega), h]
   rfl
 · have e1 : binV E0 .lss 21 false true (.int .i32 (r : Int)) (.int .i32 128) = some (.bool false) := by rw [binV_ii, intsV_lss, show decide ((r : Int) < 128) = false by simp; omega]
   have e2 : binV E0 .eql 21 false true (.int .i32 (r : Int)) (.int .i32 65533) = some (.bool (decide ((r : Int) = 65533))) := by rw [binV_ii, intsV_eql]
   obtain ⟨v, hv⟩ := h82 S
   obtain ⟨a, l, ha, h1, h3, hl⟩ := enc_last r (by omega)
   have hcv : convertV E0 21 9 (.int .i32 (r : Int)) S = some (sv (a ++ [l]), S) := by
    rw [← ha]
    exact convertV_rune und21 und9 _ S
   have hx : ixR r = -1 := by unfold ixR; rw [if_neg (by omega), if_neg (by omega)]
   rw [hx]
   exact F78_far self m _ _ v a l h1 h3 hl S ho h63 e0 e1 e2 hv hcv
theorem kn78 {K : FuncId → Option KF} (hK : KnOk Try.prog E0 K) (h63 : K 24 = some kfIndexByte) (h82 : K 97 = none) : KnWell Try.prog E0 82 kfIndexRune :=
 specKF_text (fn := Try.f82) (c := C82) (d := B82) E0_ok hK (by kernel_rfl) (by kernel_rfl) (annot_isOf C82 _ (by kernel_rfl)) fun p S ho => by
  obtain ⟨S', h1, h2⟩ := F78_spec (ev E0 K 1) (rounds - 3) p.r S ho (fun s c S => by rw [ev_known h63, kfIndexByte_run]) (fun S => by
   obtain ⟨v, hv⟩ := F82_spec (ev E0 K 0) rounds p.r S
   exact ⟨v, ev_read (c := C97) (d := B97) (by kernel_rfl) (by kernel_rfl) (annot_isOf C97 _ (by kernel_rfl)) h82 hv⟩)
  rw [show rounds - 3 + 3 = rounds by unfold rounds; omega] at h1
  exact ⟨1, .ret (.int .i64 (ixR p.r)), S', h1, h2, Fz.same (.int _ _)⟩
end Go.Proofs.Ytbihlgcdnhoknaa.W
