/- NumeralRenames: replacing all texts, different ones by different ones, replaces all words and keeps twins, and a greater Top changes no words; no condition. -/
import Derived.Test.YtgodfjbmblghnaaX6
import Derived.Test.YtgodfjbmblghnaaProg
import Derived.Test.YtgodfjbmblghnaaRows
set_option linter.unusedVariables false
set_option maxRecDepth 20000
set_option maxHeartbeats 4000000
namespace Go.Proofs.Ytgodfjbmblghnaa
open Go Go.Ab Go.Proofs
def an12 : An := { imm := [3, 4], jn := [(2, [2, 3, 4, 43]), (9, [2, 3, 4, 7, 8, 9]), (11, [2, 3, 4, 7, 8, 9, 10]), (13, [2, 3, 4, 7, 8, 9, 10, 11]), (18, [2, 3, 4, 7]), (20, [3, 4, 7, 12, 13]), (22, [3, 4, 7, 12, 14, 129]), (27, [3, 4, 7, 12, 14, 16, 145]), (29, [4, 7, 17, 18]), (31, [17, 19, 170]), (36, [17, 19, 21, 185])], lp := [(6, [2, 3, 4, 7, 8]), (10, [2, 3, 4, 7, 8, 9, 10]), (24, [3, 4, 7, 12, 14, 16]), (33, [17, 19, 21])], loud := [], ord := [] }
def vc12 (C : Cb) (a0 a1 a2 : V) (H : Hp) (R : List V → Hp → Prop) : Prop :=
 C.aBx true 7 a0.nod H fun v1 H2 =>
 C.aBx true 4 a1.nod H2 fun v3 H4 =>
 Jn (fun l5 H6 =>
 aCond (l5.getD 3 .junk).nod (
 C.callE 15 [] H6 fun v8 H9 =>
 R [v8] H9) (
 C.aLd 7 true false (l5.getD 1 .junk).nod H6 fun v10 H11 =>
 C.aBx false 7 (V.agg [(I 0), (I 0), (I 0), (I 0), (V.arr [] .full), (V.arr [] .full), (V.arr [] .full)]) H11 fun v12 H13 =>
 C.aSt 7 v12.nod v10 H13 fun v14 H15 =>
 C.aFA 4 1 false v12.nod fun v16 =>
 C.aSt 1 v16.nod (V.arr [] .full) H15 fun v17 H18 =>
 Jn (fun l19 H20 =>
 C.aFA 0 1 false (l19.getD 1 .junk).nod fun v22 =>
 C.aLd 1 false false v22.nod H20 fun v23 H24 =>
 C.aBin (Try.prog.underlying 3) .add v23.nod (l19.getD 0 .junk).nod.nod fun v25 =>
 C.aMM false [(I 999999999999), v25.nod] fun v26 =>
 C.aFA 0 1 false (l19.getD 3 .junk).nod fun v27 =>
 C.aSt 1 v27.nod v26 H24 fun v28 H29 =>
 Jn (fun l30 H31 =>
 C.aLd 7 true false (l30.getD 2 .junk).nod H31 fun v33 H34 =>
 C.aLd 4 true false (l30.getD 1 .junk).nod H34 fun v35 H36 =>
 C.callE 20 [v33.nod, v35.nod] H36 fun v37 H38 =>
 C.aExt 0 v37.nod.nod fun v39 =>
 C.aExt 1 v37.nod.nod fun v40 =>
 Jn (fun l41 H42 =>
 aCond (l41.getD 5 .junk).nod (
 R [(B false)] H42) (
 LoopA (fun l44 H45 K46 =>
 C.aLen (l44.getD 3 .junk).nod.nod fun v47 =>
 C.aBin (Try.prog.underlying 3) .lss (l44.getD 5 .junk).nod.nod v47.nod fun v48 =>
 aCond v48.nod (
 Jn (fun l49 H50 =>
 aCond (l49.getD 6 .junk).nod (
 R [(B false)] H50) (
 C.aBin (Try.prog.underlying 3) .add (l49.getD 5 .junk).nod.nod (I 1) fun v52 =>
 K46 [(l49.getD 0 .junk), (l49.getD 1 .junk), (l49.getD 2 .junk), (l49.getD 3 .junk), (l49.getD 4 .junk), v52] H50))
 (fun R51 =>
 C.aIx 1 (l44.getD 4 .junk).nod.nod (l44.getD 5 .junk).nod.nod fun v53 =>
 C.aLd 1 false false v53.nod H45 fun v54 H55 =>
 C.aIx 1 (l44.getD 3 .junk).nod.nod (l44.getD 5 .junk).nod.nod fun v56 =>
 C.aLd 1 false false v56.nod H55 fun v57 H58 =>
 C.aBin (Try.prog.underlying 9) .add (V.imm (.string (ByteArray.mk #[42]))) v57.nod fun v59 =>
 C.aBin (Try.prog.underlying 9) .neq v54.nod v59.nod fun v60 =>
 R51 [(l44.getD 0 .junk), (l44.getD 1 .junk), (l44.getD 2 .junk), (l44.getD 3 .junk), (l44.getD 4 .junk), (l44.getD 5 .junk), v60] H58)) (
 Jn (fun l61 H62 =>
 C.aLd 7 true false (l61.getD 1 .junk).nod H62 fun v64 H65 =>
 C.aLd 4 true false (l61.getD 0 .junk).nod H65 fun v66 H67 =>
 C.callE 37 [v64.nod, v66.nod] H67 fun v68 H69 =>
 C.aExt 0 v68.nod.nod fun v70 =>
 C.aExt 1 v68.nod.nod fun v71 =>
 Jn (fun l72 H73 =>
 aCond (l72.getD 2 .junk).nod (
 R [(B false)] H73) (
 LoopA (fun l75 H76 K77 =>
 C.aLen (l75.getD 0 .junk).nod.nod fun v78 =>
 C.aBin (Try.prog.underlying 3) .lss (l75.getD 2 .junk).nod.nod v78.nod fun v79 =>
 aCond v79.nod (
 Jn (fun l80 H81 =>
 aCond (l80.getD 3 .junk).nod (
 R [(B false)] H81) (
 C.aBin (Try.prog.underlying 3) .add (l80.getD 2 .junk).nod.nod (I 1) fun v83 =>
 K77 [(l80.getD 0 .junk), (l80.getD 1 .junk), v83] H81))
 (fun R82 =>
 C.aIx 2 (l75.getD 0 .junk).nod.nod (l75.getD 2 .junk).nod.nod fun v84 =>
 C.aLd 2 true false v84.nod H76 fun v85 H86 =>
 C.aIx 2 (l75.getD 1 .junk).nod.nod (l75.getD 2 .junk).nod.nod fun v87 =>
 C.aLd 2 true false v87.nod H86 fun v88 H89 =>
 C.aEqS 88 .neq v85.nod v88.nod fun v90 =>
 R82 [(l75.getD 0 .junk), (l75.getD 1 .junk), (l75.getD 2 .junk), v90] H89)) (
 C.callE 15 [] H76 fun v91 H92 =>
 R [v91] H92))
 [(l72.getD 0 .junk), (l72.getD 1 .junk), (I 0)] H73))
 (fun R74 =>
 C.aBin (Try.prog.underlying 29) .neq (l61.getD 3 .junk).nod.nod (I 0) fun v93 =>
 Jv (fun v94 H95 =>
 Jv (fun v98 H99 =>
 R74 [(l61.getD 2 .junk), v70, v98] H99)
 (fun R100 =>
 aG v94.nod false (
 C.aLen (l61.getD 2 .junk).nod.nod fun v101 =>
 C.aLen v70.nod.nod fun v102 =>
 C.aBin (Try.prog.underlying 3) .neq v101.nod v102.nod fun v103 =>
 R100 v103.nod H95) (
 R100 (B true) H95)))
 (fun R96 =>
 aG v93.nod false (
 C.aBin (Try.prog.underlying 29) .neq v71.nod.nod (I 0) fun v97 =>
 R96 v97.nod H69) (
 R96 (B true) H69))))
 (fun R63 =>
 C.aLd 7 true false (l44.getD 0 .junk).nod H45 fun v104 H105 =>
 C.aLd 4 true false (l44.getD 1 .junk).nod H105 fun v106 H107 =>
 C.callE 37 [v104.nod, v106.nod] H107 fun v108 H109 =>
 C.aExt 0 v108.nod.nod fun v110 =>
 C.aExt 1 v108.nod.nod fun v111 =>
 R63 [(l44.getD 1 .junk), (l44.getD 2 .junk), v110, v111] H109)))
 [(l41.getD 0 .junk), (l41.getD 1 .junk), (l41.getD 2 .junk), (l41.getD 3 .junk), (l41.getD 4 .junk), (I 0)] H42))
 (fun R43 =>
 C.aBin (Try.prog.underlying 29) .neq (l30.getD 4 .junk).nod.nod v40.nod.nod fun v112 =>
 Jv (fun v113 H114 =>
 R43 [(l30.getD 0 .junk), (l30.getD 1 .junk), (l30.getD 2 .junk), (l30.getD 3 .junk), v39, v113] H114)
 (fun R115 =>
 aG v112.nod false (
 C.aLen (l30.getD 3 .junk).nod.nod fun v116 =>
 C.aLen v39.nod.nod fun v117 =>
 C.aBin (Try.prog.underlying 3) .neq v116.nod v117.nod fun v118 =>
 R115 v118.nod H38) (
 R115 (B true) H38))))
 (fun R32 =>
 C.aLd 7 true false (l19.getD 1 .junk).nod H29 fun v119 H120 =>
 C.aLd 4 true false (l19.getD 2 .junk).nod H120 fun v121 H122 =>
 C.callE 20 [v119.nod, v121.nod] H122 fun v123 H124 =>
 C.aExt 0 v123.nod.nod fun v125 =>
 C.aExt 1 v123.nod.nod fun v126 =>
 R32 [(l19.getD 1 .junk), (l19.getD 2 .junk), (l19.getD 3 .junk), v125, v126] H124))
 (fun R21 =>
 LoopA (fun l127 H128 K129 =>
 C.aFA 4 1 false (l127.getD 1 .junk).nod fun v130 =>
 C.aLd 1 false false v130.nod H128 fun v131 H132 =>
 C.aLen v131.nod fun v133 =>
 C.aBin (Try.prog.underlying 3) .lss (l127.getD 4 .junk).nod.nod v133.nod fun v134 =>
 aCond v134.nod (
 Jn (fun l135 H136 =>
 LoopA (fun l138 H139 K140 =>
 C.aFA 4 1 false (l138.getD 1 .junk).nod fun v141 =>
 C.aLd 1 false false v141.nod H139 fun v142 H143 =>
 C.aIx 2 v142.nod (l138.getD 4 .junk).nod.nod fun v144 =>
 C.aFA 1 1 false v144.nod fun v145 =>
 C.aLd 1 false false v145.nod H143 fun v146 H147 =>
 C.aLen v146.nod fun v148 =>
 C.aBin (Try.prog.underlying 3) .lss (l138.getD 6 .junk).nod.nod v148.nod fun v149 =>
 aCond v149.nod (
 Jn (fun l150 H151 =>
 C.aBin (Try.prog.underlying 3) .add (l150.getD 6 .junk).nod.nod (I 1) fun v153 =>
 K140 [(l150.getD 0 .junk), (l150.getD 1 .junk), (l150.getD 2 .junk), (l150.getD 3 .junk), (l150.getD 4 .junk), (l150.getD 5 .junk), v153] H151)
 (fun R152 =>
 Jn (fun l154 H155 =>
 C.aFA 3 1 false (l154.getD 7 .junk).nod fun v157 =>
 C.aLd 1 false false v157.nod H155 fun v158 H159 =>
 C.aLenT v158.nod fun v160 =>
 C.aBin (Try.prog.underlying 3) .gtr v160.nod (I 29) fun v161 =>
 aCond v161.nod (
 C.callE 15 [] H159 fun v162 H163 =>
 R [v162] H163) (
 C.aFA 3 1 false (l154.getD 7 .junk).nod fun v164 =>
 C.aLd 1 false false v164.nod H159 fun v165 H166 =>
 C.aBin (Try.prog.underlying 9) .add (V.imm (.string (ByteArray.mk #[42]))) v165.nod fun v167 =>
 C.aFA 3 1 false (l154.getD 7 .junk).nod fun v168 =>
 C.aSt 1 v168.nod v167 H166 fun v169 H170 =>
 C.aFA 1 1 false (l154.getD 5 .junk).nod fun v171 =>
 C.aLd 1 false true v171.nod H170 fun v172 H173 =>
 C.aLd 4 true false (l154.getD 7 .junk).nod H173 fun v174 H175 =>
 C.aBS 4 1 (V.agg [(I 0), (I 0), (I 0), (V.imm (.string (ByteArray.mk #[])))]) [(0, v174.nod)] fun v176 =>
 C.aApp 4 40 v172 v176.nod fun v177 =>
 C.aFA 1 1 false (l154.getD 5 .junk).nod fun v178 =>
 C.aSt 1 v178.nod v177 H175 fun v179 H180 =>
 R152 [(l154.getD 0 .junk), (l154.getD 1 .junk), (l154.getD 2 .junk), (l154.getD 3 .junk), (l154.getD 4 .junk), (l154.getD 5 .junk), (l154.getD 6 .junk)] H180))
 (fun R156 =>
 C.aFA 4 1 false (l138.getD 1 .junk).nod fun v181 =>
 C.aLd 1 false false v181.nod H147 fun v182 H183 =>
 C.aIx 2 v182.nod (l138.getD 4 .junk).nod.nod fun v184 =>
 C.aFA 1 1 false v184.nod fun v185 =>
 C.aLd 1 false false v185.nod H183 fun v186 H187 =>
 C.aIx 4 v186.nod (l138.getD 6 .junk).nod.nod fun v188 =>
 C.aLd 4 true false v188.nod H187 fun v189 H190 =>
 C.aBx false 4 (V.agg [(I 0), (I 0), (I 0), (V.imm (.string (ByteArray.mk #[])))]) H190 fun v191 H192 =>
 C.aSt 4 v191.nod v189 H192 fun v193 H194 =>
 R156 [(l138.getD 0 .junk), (l138.getD 1 .junk), (l138.getD 2 .junk), (l138.getD 3 .junk), (l138.getD 4 .junk), (l138.getD 5 .junk), (l138.getD 6 .junk), v191] H194))) (
 C.aFA 4 1 false (l138.getD 3 .junk).nod fun v195 =>
 C.aLd 1 false true v195.nod H147 fun v196 H197 =>
 C.aLd 2 true false (l138.getD 5 .junk).nod H197 fun v198 H199 =>
 C.aBS 2 1 (V.agg [(I 0), (V.arr [] .full)]) [(0, v198.nod)] fun v200 =>
 C.aApp 2 32 v196 v200.nod fun v201 =>
 C.aFA 4 1 false (l138.getD 3 .junk).nod fun v202 =>
 C.aSt 1 v202.nod v201 H199 fun v203 H204 =>
 C.aBin (Try.prog.underlying 3) .add (l138.getD 4 .junk).nod.nod (I 1) fun v205 =>
 K129 [(l138.getD 0 .junk), (l138.getD 1 .junk), (l138.getD 2 .junk), (l138.getD 3 .junk), v205] H204))
 [(l135.getD 0 .junk), (l135.getD 1 .junk), (l135.getD 2 .junk), (l135.getD 3 .junk), (l135.getD 4 .junk), (l135.getD 5 .junk), (I 0)] H136)
 (fun R137 =>
 C.aFA 4 1 false (l127.getD 1 .junk).nod fun v206 =>
 C.aLd 1 false false v206.nod H132 fun v207 H208 =>
 C.aIx 2 v207.nod (l127.getD 4 .junk).nod.nod fun v209 =>
 C.aFA 0 1 false v209.nod fun v210 =>
 C.aLd 1 false false v210.nod H208 fun v211 H212 =>
 C.aBd [(I 0), (V.arr [] .full)] [(0, 1, v211.nod)] fun v213 =>
 C.aBx false 2 (V.agg [(I 0), (V.arr [] .full)]) H212 fun v214 H215 =>
 C.aSt 2 v214.nod (own0 v213 v211) H215 fun v216 H217 =>
 R137 [(l127.getD 0 .junk), (l127.getD 1 .junk), (l127.getD 2 .junk), (l127.getD 3 .junk), (l127.getD 4 .junk), v214] H217)) (
 R21 [(l127.getD 0 .junk), (l127.getD 1 .junk), (l127.getD 2 .junk), (l127.getD 3 .junk)] H132))
 [(l5.getD 0 .junk), (l5.getD 1 .junk), (l5.getD 2 .junk), v12, (I 0)] H18)))
 (fun R7 =>
 C.aLd 7 true false v1.nod H4 fun v218 H219 =>
 C.callE 14 [v218.nod] H219 fun v220 H221 =>
 C.aUn .not v220.nod fun v222 =>
 Jv (fun v223 H224 =>
 Jv (fun v230 H231 =>
 Jv (fun v240 H241 =>
 Jv (fun v244 H245 =>
 R7 [a2, v1, v3, v244] H245)
 (fun R246 =>
 aG v240.nod false (
 C.aBin (Try.prog.underlying 3) .gtr a2.nod.nod (I 1000000) fun v247 =>
 R246 v247.nod H241) (
 R246 (B true) H241)))
 (fun R242 =>
 aG v230.nod false (
 C.aBin (Try.prog.underlying 3) .lss a2.nod.nod (I 0) fun v243 =>
 R242 v243.nod H231) (
 R242 (B true) H231)))
 (fun R232 =>
 aG v223.nod false (
 C.aLd 7 true false v1.nod H224 fun v233 H234 =>
 C.aLd 4 true false v3.nod H234 fun v235 H236 =>
 C.callE 22 [v233.nod, v235.nod, (B true)] H236 fun v237 H238 =>
 C.aBin (Try.prog.underlying 29) .neq v237.nod (I 0) fun v239 =>
 R232 v239.nod H238) (
 R232 (B true) H224)))
 (fun R225 =>
 aG v222.nod false (
 C.aFA 0 1 false v3.nod fun v226 =>
 C.aLd 1 false false v226.nod H221 fun v227 H228 =>
 C.aBin (Try.prog.underlying 3) .gtr v227.nod (I 100) fun v229 =>
 R225 v229.nod H228) (
 R225 (B true) H221)))
theorem wf12 : (Nat.ble 3 Try.f12.ntmps && wfC an12 Try.f12.ntmps (Try.f12.body.getD .skip)) = true := by kernel_rfl
theorem tie12 (C : Cb) (a0 a1 a2 : V) (H : Hp) (R : List V → Hp → Prop) : wpG Try.prog C an12 (Try.f12.body.getD .skip) (argF [a0, a1, a2]) H (retG Try.prog C Try.f12 R) (fun _ _ _ => False) (retG Try.prog C Try.f12 R) = vc12 C a0 a1 a2 H R := by kernel_rfl
theorem mk12 (a0 a1 a2 : V) {H : Hp} {v : V} {H1 : Hp} (hd : v.Nd) (hn : H.length ≤ H1.length) (hb : H1 = H ∨ ∀ (b : Nat) (blk : Blk), H1[b]? = some blk → H[b]? = some blk ∨ BelB H1.length blk) (h : vc12 (real Try.prog) a0 a1 a2 H (retF v H1)) : Ret Try.prog 12 [a0, a1, a2] H v H1 :=
  ret_mk (an := an12) hm Try.call12 Try.func12 rfl wf12 hd hn hb (Eq.mpr (tie12 (real Try.prog) a0 a1 a2 H (retF v H1)) h)
theorem mkE12 (a0 a1 a2 : V) {H : Hp} {Q : V → Hp → Prop} (h : vc12 (real Try.prog) a0 a1 a2 H (retW Q)) : RetE Try.prog 12 [a0, a1, a2] H Q :=
  retE_mk (an := an12) hm Try.call12 Try.func12 rfl wf12 (Eq.mpr (tie12 (real Try.prog) a0 a1 a2 H (retW Q)) h)
theorem mko12 (a0 a1 a2 : V) {H : Hp} {xs : List V} {H1 : Hp} (hn : H.length ≤ H1.length) (hb : H1 = H ∨ ∀ (b : Nat) (blk : Blk), H1[b]? = some blk → H[b]? = some blk ∨ BelB H1.length blk) (h : vc12 (real Try.prog) a0 a1 a2 H (retO xs H1)) : Ret Try.prog 12 [a0, a1, a2] H (.arr xs .own) H1 :=
  ret_mko (an := an12) (t := 6) hm Try.call12 Try.func12 rfl wf12 rfl hn hb (Eq.mpr (tie12 (real Try.prog) a0 a1 a2 H (retO xs H1)) h)
end Go.Proofs.Ytgodfjbmblghnaa


set_option linter.unusedVariables false
set_option linter.unusedSimpArgs false
set_option linter.unnecessarySimpa false
set_option maxRecDepth 20000
set_option maxHeartbeats 2000000
namespace Go.Proofs.Ytgodfjbmblghnaa
open Go Go.Ab Go.Proofs
attribute [local congr] g_bin g_nilS g_nilP g_un g_ext g_bx g_fa g_ld g_st g_ix g_ixA g_slc g_mk g_bs g_bd g_nc g_cv g_len g_lenT g_app g_appB g_cpy g_mm g_call g_callG g_calm g_calmG g_range g_res g_pick g_cond g_loop g_Jv g_eqS g_eqP g_fd g_ixT g_ta g_lkp g_upd g_mkM g_appS g_inv g_callE g_callEG g_invE g_zr g_wr
theorem rfE_sc (s : Sy) (n t g k : Int) : rfE s n t g k true = scE [s] n t g k := by
  unfold rfE scE
  simp only [List.all_cons, List.all_nil, Bool.and_true, true_and]
theorem spE_ok {s : Sy} {n t g k : Int} (h : okAsk s n t g k = true) : spE s n t g k = if (saW s n t g k).all gdW = true then 0 else 5 := if_pos h
theorem spL_ok {s : Sy} {n t g k : Int} (h : okAsk s n t g k = true) : spL s n t g k = trW s n t g k := if_pos h
theorem lv88 : lvT Try.prog 10000 88 = some [.int, .int] := by kernel_rfl
theorem gd88 : Try.prog.eqGuardType Try.prog.depth 88 = false := by kernel_rfl
theorem lf88 (a b : Int) : lfL [.int, .int] [I a, I b] [I a, I b] = some true := by
  simp [lfL, lfE]
theorem eq88 {K : V → Prop} (a b : Int) : aEqS Try.prog 88 .neq (.agg [I a, I b]) (.agg [I a, I b]) K = K (B false) := by
  refine propext ⟨fun ⟨ls, r, h1, h2, h3, h4⟩ => ?_, fun h => ⟨_, _, lv88, lf88 a b, gd88, h⟩⟩
  obtain rfl : ls = _ := Option.some.inj (h1.symm.trans lv88)
  obtain rfl : r = _ := Option.some.inj (h2.symm.trans (lf88 ..))
  exact h4
theorem hpY (Z Y L : Hp) (c1 c : Blk) : (Z ++ c1 :: (Y ++ c :: L))[Z.length + (Y.length + 1)]? = some c := by
  simp only [hp_getk, hp_gs, hp_get0, hp_g0]
theorem hpYs (Z Y L : Hp) (c1 c c' : Blk) : (Z ++ c1 :: (Y ++ c :: L)).set (Z.length + (Y.length + 1)) c' = Z ++ c1 :: (Y ++ c' :: L) := by
  simp only [hp_setk, hp_ss, hp_set0, hp_s0]
theorem stY {Z Y L : Hp} {c1 : Blk} {s o : Nat} {x : V} {cs : List V} {KH : V → Hp → Prop} : aSt s (.ptr (Z.length + (Y.length + 1)) o) x (Z ++ c1 :: (Y ++ .cells cs :: L)) KH = (o + s ≤ cs.length ∧ okE s (stV x) ∧ KH .junk (Z ++ c1 :: (Y ++ .cells (spl cs o (stV x).cl) :: L))) := by
  rw [st_at (hpY _ _ _ _ _), hpYs]
theorem ldY {Z Y L : Hp} {c1 : Blk} {s o : Nat} {cs : List V} {KH : V → Hp → Prop} : aLd s false false (.ptr (Z.length + (Y.length + 1)) o) (Z ++ c1 :: (Y ++ .cells cs :: L)) KH = (o + s ≤ cs.length ∧ KH (cs.getD o .junk).nod (Z ++ c1 :: (Y ++ .cells cs :: L))) := ld_at (hpY _ _ _ _ _)
theorem ldYA {Z Y L : Hp} {c1 : Blk} {s o : Nat} {cs : List V} {KH : V → Hp → Prop} : aLd s true false (.ptr (Z.length + (Y.length + 1)) o) (Z ++ c1 :: (Y ++ .cells cs :: L)) KH = (o + s ≤ cs.length ∧ KH (V.agg ((cs.drop o).take s)).nod (Z ++ c1 :: (Y ++ .cells cs :: L))) := ldA_at (hpY _ _ _ _ _)
theorem app1f (l : List Fo) (a b c : Int) (d : ByteArray) (f g : Fl) (K : V → Prop) : aApp 4 40 (.arr (l.map foV) f) (.arr [.agg [I a, I b, I c, T d]] g) K = (f.ap = true ∧ (l.length + 1) * 40 ≤ 140737488355328 ∧ K (.arr ((l ++ [(⟨a, b, c, d⟩ : Fo)]).map foV) .own)) :=
  e_appE (K := K) foV (fun _ => rfl) 40 l [(⟨a, b, c, d⟩ : Fo)] f g
def teX (e : Te) : V := .agg [I e.g, .arr ((e.f.map renF).map foV) (if e.f = [] then .full else .no)]
theorem bs1tF (a : Int) (l : List V) (z : V) (K : V → Prop) : aBS 2 1 z [(0, .agg [I a, .arr l .full])] K = K (.arr [.agg [I a, .arr l .full]] .full) := by
  have h : okE 2 (.agg [I a, .arr l .full]) = True := eq_true ⟨rfl, fun x hx => by
    simp only [V.cl, List.mem_cons, List.not_mem_nil, or_false] at hx
    rcases hx with rfl | rfl <;> rfl⟩
  simp [aBS, aPs, setP, h]
theorem wkc_te : ∀ l : List Te, WkC ((l.map teX).flatMap V.cl) (((l.map renT).map teV).flatMap V.cl) := by
  intro l
  induction l with
  | nil => exact .nil
  | cons e l ih =>
    by_cases h : e.f = []
    · have e1 : ((e :: l).map teX).flatMap V.cl = I e.g :: .arr ((e.f.map renF).map foV) .full :: (l.map teX).flatMap V.cl := by
        rw [List.map_cons, List.flatMap_cons]; unfold teX; rw [if_pos h]; rfl
      rw [e1]
      exact .same _ (.full _ ih)
    · have e1 : ((e :: l).map teX).flatMap V.cl = I e.g :: .arr ((e.f.map renF).map foV) .no :: (l.map teX).flatMap V.cl := by
        rw [List.map_cons, List.flatMap_cons]; unfold teX; rw [if_neg h]; rfl
      rw [e1]
      exact .same _ (.same _ ih)
theorem rel_te {σ : Sg} {w : World} {l : List Te} {x : Value} (h : Rel σ w (.arr (l.map teX) .no) x) : Rel σ w (.arr ((l.map renT).map teV) .no) x := by
  generalize hv : l.map teX = xs at h
  cases h with
  | arr0 f a cap hf hsp =>
    have : l = [] := by cases l with
      | nil => rfl
      | cons x l => simp at hv
    subst this
    exact .arr0 _ _ _ hf hsp
  | arr xs f rb off n cap s ys hne hn hc hf hs hx hcell hrel =>
    subst hv
    have hl : l ≠ [] := fun h => hne (by rw [h]; rfl)
    have hs2 : s = 2 := by
      obtain ⟨e, l', rfl⟩ := List.exists_cons_of_ne_nil hl
      have := (hx (teX e) (by simp)).1
      rw [← this]; rfl
    subst hs2
    refine .arr _ .no rb off n cap 2 ys (fun h => hl (by
      have := congrArg List.length h
      simp at this
      exact this)) (by rw [hn]; simp) hc hf hs (fun y hy => ?_) (fun j c hj => ?_) (fun j c hj => ?_)
    · obtain ⟨e, -, rfl⟩ := List.mem_map.1 hy
      exact ⟨rfl, rfl⟩
    · obtain ⟨c', hc', -⟩ := (wkc_te l).at j c hj
      exact hcell j c' hc'
    · obtain ⟨c', hc', hcc⟩ := (wkc_te l).at j c hj
      have := hrel j c' hc'
      rcases hcc with rfl | ⟨xs, rfl, rfl⟩
      · exact this
      · exact this.wk (.full xs)
def rsV (s : Sy) (top : Int) : V := .agg [I top, I s.gen, I s.cas, I s.cls, .arr (s.te.map teX) .no, .arr (s.pl.map plV) .no, .arr (s.se.map seV) .no]
theorem rel_rs {σ : Sg} {w : World} {s : Sy} {top : Int} {x : Value} (h : Rel σ w (rsV s top) x) : Rel σ w (syV (renS s top)) x := by
  cases h with
  | agg cs ys hl h0 h1 =>
    refine .agg _ ys hl h0 fun i c hi => ?_
    match i with
    | 0 => exact h1 0 c hi
    | 1 => exact h1 1 c hi
    | 2 => exact h1 2 c hi
    | 3 => exact h1 3 c hi
    | 4 =>
      have := h1 4 _ rfl
      cases hi
      exact rel_te this
    | 5 => exact h1 5 c hi
    | 6 => exact h1 6 c hi
    | i + 7 => simp at hi
theorem Ret.weakG {P : Program} {f : Nat} {a a' : V} {rest : List V} {H H' : Hp} {v : V} (h : Ret P f (a' :: rest) H v H') (k : ∀ σ w x, Rel σ w a x → Rel σ w a' x) (hd : a'.Nd) : Ret P f (a :: rest) H v H' := by
  refine ⟨h.1, fun σ w ra hl hst hnd => ?_⟩
  have own : ∀ i j x rb, OwnB (leafV (argF (a' :: rest) i) j) x rb → leafV (argF (a' :: rest) i) j = leafV (argF (a :: rest) i) j := fun i j x rb ho => by
    cases i with
    | zero => exact absurd ho (not_own_Nd hd)
    | succ i => rfl
  obtain ⟨s1, o1⟩ := hst.reframe (argF (a' :: rest)) ra id (fun i => by
      cases i with
      | zero => exact k _ _ _ (hst.frame 0)
      | succ i => exact hst.frame (i + 1)) (fun i j rb ho => ⟨own i j _ rb ho, rfl⟩) (fun i i' j j' rb _ _ e => e)
  refine (h.2 σ w ra hl s1 (fun a0 ha => by
    rcases List.mem_cons.1 ha with rfl | ha
    · exact hd
    · exact hnd a0 (by simp [ha]))).mono fun e w' he => ?_
  obtain ⟨x, σ', e1, e2, e3⟩ := he
  exact ⟨x, σ', e1, e2, e3.toLe, e3.os, e3.output, e3.tape, e3.size, fun rb q1 q2 q3 => e3.keep rb q1 q2 (fun q => q3 (o1 rb q)), fun rb q1 q2 => o1 rb (e3.own rb q1 q2), e3.fresh⟩
theorem oF_nd {n : Nat} (h : n ≠ 0) : oF n = .own := by
  cases n with
  | zero => exact absurd rfl h
  | succ n => rfl
theorem c12 (s : Sy) (n t g k d : Int) (H : Hp) (sm : Sm s) : Ret Try.prog 12 [syV s, asV n t g k, I d] H (B true) H := by
  refine mk12 _ _ _ rfl (Nat.le_refl _) (.inl rfl) ?_
  simp only [vc12, real]
  repeat (first | (with_reducible first | refine Ju.go ?_ | (refine Hd.go ?_; intro K Q hK hQ; simp only [nod_agg, List.map_cons, nodL_imm, nodL_arr, nd_no, List.map_nil, e_bxI, okE_agg, lv_cons, List.length_nil, Nat.zero_add, Nat.reduceAdd, all_c, ck_I, ck_arr, all_n, Bool.and_self, and_true, true_and, nod_cptr, e_ldcA]; subst hK hQ) | refine Jr.go ?_) | refine sd ?_)
  refine callE_of (c14 s H sm) fun v H1 ⟨hH, b, hv⟩ => ?_
  replace hH := hH.symm
  subst hv hH
  cases b
  · repeat (first | (with_reducible first | refine Ju.go ?_ | (refine Hd.go ?_; intro K Q hK hQ; simp only [nod_imm, e_not, Bool.not_false, nod_cptr, Try.underlying3, e_fac, Nat.zero_add, lv_cons, List.length_nil, Nat.reduceAdd, Nat.reduceLeDiff, List.getD_cons_zero, e_ldc, e_gtr, true_and, e_gF, cond_true, j_one, Try.underlying29, e_ldcA, nod_agg, List.map_cons, nodL_imm, List.map_nil, nodL_arr, nd_no, e_lss, List.getD_cons_succ, e_cond, if_true]; subst hK hQ) | refine Jr.go ?_) | refine sd ?_)
    refine call_of (c15 _) ?_
    repeat (first | (with_reducible first | refine Ju.go ?_ | (refine Hd.go ?_; intro K Q hK hQ; simp only [Try.underlying3, Try.underlying4, Try.underlying5, Try.underlying9, Try.underlying29, Try.underlying57, Try.underlying55, j_one, j_side, j_tl, j_fl, nod_nod, nod_imm, nod_ints, nd_no, nd_own, nd_full, nd_fO, oF_ap, oF_succ, nod_sl, nod_ptr, nod_cptr, nod_fn, nod_junk, nodL_imm, nod_agg, nod_tup, nod2_imm, nod2_agg, cl_imm, cl_ints, cl_agg, e_add, e_sub, e_mul, e_quo, e_rem, e_eql, e_neq, e_lss, e_leq, e_gtr, e_geq, e_beq, e_bne, e_neg, e_not, e_pick, e_cond, e_gT, e_gF, e_len, e_lenA, e_lenS, e_ix, e_ixS, e_ldc, e_ldci, e_fa, rep_cl, rep_I, e_bx, okE_I, okE_B, okE_E8, okE_ints, stV_imm, stV_ints, j_and', j_or', List.getD_cons_zero, List.getD_cons_succ, List.map_cons, List.map_nil, decide_eq_true_eq, Int.toNat_natCast, Nat.mul_one, Nat.zero_add, true_and, and_true, List.length_map, Bool.not_eq_true', decide_eq_false_iff_not, nod_lists, e_lenL, e_ixL, okE_lists, bs1, bs1L, bs2L, e_app, e_appL, e_app0, e_app0L, e_slcLo, e_slcHi, e_slcLH, e_slcHH, e_slcLHH, e_callG, e_callY, e_calmG, e_slS0, e_slSLo, e_slSHi, e_slSLH, e_slSHH, e_slSLHH, e_max2, e_min2, e_max3, e_x20, e_x21, e_x30, e_x31, e_x32, nod2_ints, nod2_lists, rep_fl, bs0, e_nilE, if_true, if_false, cond_true, cond_false, decide_true, decide_false, eq_self, Bool.false_eq_true, false_implies, true_implies, ap_own, ap_full, e_slcLoL, e_slcHiL, e_slcLHL, hp_assoc, hp_cons, hp_nil, hp_len, hp_len_cons, hp_len_nil, lv_cons, lv_nil, vs_0, vs_s, spl_s, spl_0, spl_n, dr_s, dr_0, tk_s, tk_0, e_bxI, e_fac, e_facA, e_ldcA, e_ldcL, e_ldcF, okE_agg, ck_I, ck_B, ck_ints, ck_lists, ck_arr, ck_ptr, ck_cptr, ck_fn, all_c, all_n, stV_agg, stV_lists, stV_arr, stV_ptr, stV_cptr, stV_fn, nodL_ints, nodL_lists, nodL_ptr, nodL_cptr, nodL_fn, nodL_arr0, cl_arr, cl_ptr, cl_cptr, cl_fn, cl_lists, okE_arr, okE_fn, okE_ptr, okE_cptr, e_bd0, e_bd1, e_wr, Nat.reduceAdd, Nat.reduceLeDiff, Nat.reduceEqDiff, Nat.add_zero, Bool.and_self, Bool.true_and, Bool.and_true, e_lc0, e_lA0, e_lM0, e_sc0, e_rc0, e_rA0, e_lI0, e_sI0, e_cI0, e_lc1, e_lA1, e_lM1, e_sc1, e_rc1, e_rA1, e_lI1, e_sI1, e_cI1, e_lc2, e_lA2, e_lM2, e_sc2, e_rc2, e_rA2, e_lI2, e_sI2, e_cI2, e_lc3, e_lA3, e_lM3, e_sc3, e_rc3, e_rA3, e_lI3, e_sI3, e_cI3, e_lc4, e_lA4, e_lM4, e_sc4, e_rc4, e_rA4, e_lI4, e_sI4, e_cI4, e_lc5, e_lA5, e_lM5, e_sc5, e_rc5, e_rA5, e_lI5, e_sI5, e_cI5, own0_arr, own0_ints, own0_lists, own0_imm, own0_ptr, own0_cptr, own0_fn, own0_agg, e_appB, e_appB0, ck_sl, own0_sl, stV_sl, nodL_sl, cl_sl, okE_sl, e_mkM, e_mkI, e_mkIm, e_callB, nod_bfn, nod_ifc, nod_map, nodL_ifc, nodL_bfn, nodL_map, cl_ifc, cl_bfn, ck_ifc, ck_bfn, ck_map, stV_ifc, okE_ifc, okE_bfn, nod_arr, nodL_arr, e_addU, e_mulU, e_shrK, e_shlK, e_andK, e_cv64, e_cv32, e_callEG, e_callEY, e_callEB, e_zr, e_nilSl, e_ncP, e_ncC, e_npnP, e_npeP, e_npnC, e_npeC, e_npnN, e_npeN, e_ixAP, e_ldcP, e_ldcS, e_ldcV, e_ldcT, okE_nilP, ck_nilP, okE_nilI, ck_nilI, okE_str, ck_str, e_tlen, e_tix, e_teq, e_tne, e_tadd, e_tb, e_u8lss, e_u8gtr, noV_full, nod_arr, List.length_map, reduceIte, Int.reduceEq, Int.reduceNeg, ne_eq, not_true_eq_false, not_false_eq_true, Bool.not_true, Bool.not_false, Bool.true_or, Bool.or_true, Bool.false_or, Bool.or_false, Bool.and_true, Bool.and_false, Bool.false_and, Bool.not_not, Bool.or_self, List.length_nil, Int.ofNat_zero, Int.cast_ofNat_Int, Int.natCast_zero, beq_self_eq_true, Bool.true_eq_false]; subst hK hQ) | refine Jr.go ?_) | refine sd ?_)
    exact end1 (fzI _)
  by_cases h3 : 100 < n
  · repeat (first | (with_reducible first | refine Ju.go ?_ | (refine Hd.go ?_; intro K Q hK hQ; simp only [nod_imm, e_not, Bool.not_true, nod_cptr, Try.underlying3, e_fac, Nat.zero_add, lv_cons, List.length_nil, Nat.reduceAdd, Nat.reduceLeDiff, List.getD_cons_zero, e_ldc, e_gtr, h3, decide_true, true_and, e_gF, cond_false, j_one, Try.underlying29, e_ldcA, nod_agg, List.map_cons, nodL_imm, List.map_nil, nodL_arr, nd_no, cond_true, e_lss, List.getD_cons_succ, e_cond, if_true]; subst hK hQ) | refine Jr.go ?_) | refine sd ?_)
    refine call_of (c15 _) ?_
    repeat (first | (with_reducible first | refine Ju.go ?_ | (refine Hd.go ?_; intro K Q hK hQ; simp only [Try.underlying3, Try.underlying4, Try.underlying5, Try.underlying9, Try.underlying29, Try.underlying57, Try.underlying55, j_one, j_side, j_tl, j_fl, nod_nod, nod_imm, nod_ints, nd_no, nd_own, nd_full, nd_fO, oF_ap, oF_succ, nod_sl, nod_ptr, nod_cptr, nod_fn, nod_junk, nodL_imm, nod_agg, nod_tup, nod2_imm, nod2_agg, cl_imm, cl_ints, cl_agg, e_add, e_sub, e_mul, e_quo, e_rem, e_eql, e_neq, e_lss, e_leq, e_gtr, e_geq, e_beq, e_bne, e_neg, e_not, e_pick, e_cond, e_gT, e_gF, e_len, e_lenA, e_lenS, e_ix, e_ixS, e_ldc, e_ldci, e_fa, rep_cl, rep_I, e_bx, okE_I, okE_B, okE_E8, okE_ints, stV_imm, stV_ints, j_and', j_or', List.getD_cons_zero, List.getD_cons_succ, List.map_cons, List.map_nil, decide_eq_true_eq, Int.toNat_natCast, Nat.mul_one, Nat.zero_add, true_and, and_true, List.length_map, Bool.not_eq_true', decide_eq_false_iff_not, nod_lists, e_lenL, e_ixL, okE_lists, bs1, bs1L, bs2L, e_app, e_appL, e_app0, e_app0L, e_slcLo, e_slcHi, e_slcLH, e_slcHH, e_slcLHH, e_callG, e_callY, e_calmG, e_slS0, e_slSLo, e_slSHi, e_slSLH, e_slSHH, e_slSLHH, e_max2, e_min2, e_max3, e_x20, e_x21, e_x30, e_x31, e_x32, nod2_ints, nod2_lists, rep_fl, bs0, e_nilE, if_true, if_false, cond_true, cond_false, decide_true, decide_false, eq_self, Bool.false_eq_true, false_implies, true_implies, ap_own, ap_full, e_slcLoL, e_slcHiL, e_slcLHL, hp_assoc, hp_cons, hp_nil, hp_len, hp_len_cons, hp_len_nil, lv_cons, lv_nil, vs_0, vs_s, spl_s, spl_0, spl_n, dr_s, dr_0, tk_s, tk_0, e_bxI, e_fac, e_facA, e_ldcA, e_ldcL, e_ldcF, okE_agg, ck_I, ck_B, ck_ints, ck_lists, ck_arr, ck_ptr, ck_cptr, ck_fn, all_c, all_n, stV_agg, stV_lists, stV_arr, stV_ptr, stV_cptr, stV_fn, nodL_ints, nodL_lists, nodL_ptr, nodL_cptr, nodL_fn, nodL_arr0, cl_arr, cl_ptr, cl_cptr, cl_fn, cl_lists, okE_arr, okE_fn, okE_ptr, okE_cptr, e_bd0, e_bd1, e_wr, Nat.reduceAdd, Nat.reduceLeDiff, Nat.reduceEqDiff, Nat.add_zero, Bool.and_self, Bool.true_and, Bool.and_true, e_lc0, e_lA0, e_lM0, e_sc0, e_rc0, e_rA0, e_lI0, e_sI0, e_cI0, e_lc1, e_lA1, e_lM1, e_sc1, e_rc1, e_rA1, e_lI1, e_sI1, e_cI1, e_lc2, e_lA2, e_lM2, e_sc2, e_rc2, e_rA2, e_lI2, e_sI2, e_cI2, e_lc3, e_lA3, e_lM3, e_sc3, e_rc3, e_rA3, e_lI3, e_sI3, e_cI3, e_lc4, e_lA4, e_lM4, e_sc4, e_rc4, e_rA4, e_lI4, e_sI4, e_cI4, e_lc5, e_lA5, e_lM5, e_sc5, e_rc5, e_rA5, e_lI5, e_sI5, e_cI5, own0_arr, own0_ints, own0_lists, own0_imm, own0_ptr, own0_cptr, own0_fn, own0_agg, e_appB, e_appB0, ck_sl, own0_sl, stV_sl, nodL_sl, cl_sl, okE_sl, e_mkM, e_mkI, e_mkIm, e_callB, nod_bfn, nod_ifc, nod_map, nodL_ifc, nodL_bfn, nodL_map, cl_ifc, cl_bfn, ck_ifc, ck_bfn, ck_map, stV_ifc, okE_ifc, okE_bfn, nod_arr, nodL_arr, e_addU, e_mulU, e_shrK, e_shlK, e_andK, e_cv64, e_cv32, e_callEG, e_callEY, e_callEB, e_zr, e_nilSl, e_ncP, e_ncC, e_npnP, e_npeP, e_npnC, e_npeC, e_npnN, e_npeN, e_ixAP, e_ldcP, e_ldcS, e_ldcV, e_ldcT, okE_nilP, ck_nilP, okE_nilI, ck_nilI, okE_str, ck_str, e_tlen, e_tix, e_teq, e_tne, e_tadd, e_tb, e_u8lss, e_u8gtr, noV_full, nod_arr, List.length_map, reduceIte, Int.reduceEq, Int.reduceNeg, ne_eq, not_true_eq_false, not_false_eq_true, Bool.not_true, Bool.not_false, Bool.true_or, Bool.or_true, Bool.false_or, Bool.or_false, Bool.and_true, Bool.and_false, Bool.false_and, Bool.not_not, Bool.or_self, List.length_nil, Int.ofNat_zero, Int.cast_ofNat_Int, Int.natCast_zero, beq_self_eq_true, Bool.true_eq_false]; subst hK hQ) | refine Jr.go ?_) | refine sd ?_)
    exact end1 (fzI _)
  repeat (first | (with_reducible first | refine Ju.go ?_ | (refine Hd.go ?_; intro K Q hK hQ; simp only [nod_imm, e_not, Bool.not_true, nod_cptr, Try.underlying3, e_fac, Nat.zero_add, lv_cons, List.length_nil, Nat.reduceAdd, Nat.reduceLeDiff, List.getD_cons_zero, e_ldc, e_gtr, h3, decide_false, true_and, e_gF, cond_false, j_one, Try.underlying29, e_ldcA, nod_agg, List.map_cons, nodL_imm, List.map_nil, nodL_arr, nd_no]; subst hK hQ) | refine Jr.go ?_) | refine sd ?_)
  refine call_of (c22 s n t g k true _ sm) ?_
  rw [rfE_sc]
  by_cases he : ¬ scE [s] n t g k = 0
  · generalize scE [s] n t g k = e at *
    repeat (first | (with_reducible first | refine Ju.go ?_ | (refine Hd.go ?_; intro K Q hK hQ; simp only [nod_imm, e_neq, he, decide_false, Bool.not_false, Try.underlying3, e_lss, e_gF, cond_true, j_one, e_gtr, List.getD_cons_succ, List.getD_cons_zero, e_cond, if_true]; subst hK hQ) | refine Jr.go ?_) | refine sd ?_)
    refine call_of (c15 _) ?_
    repeat (first | (with_reducible first | refine Ju.go ?_ | (refine Hd.go ?_; intro K Q hK hQ; simp only [Try.underlying3, Try.underlying4, Try.underlying5, Try.underlying9, Try.underlying29, Try.underlying57, Try.underlying55, j_one, j_side, j_tl, j_fl, nod_nod, nod_imm, nod_ints, nd_no, nd_own, nd_full, nd_fO, oF_ap, oF_succ, nod_sl, nod_ptr, nod_cptr, nod_fn, nod_junk, nodL_imm, nod_agg, nod_tup, nod2_imm, nod2_agg, cl_imm, cl_ints, cl_agg, e_add, e_sub, e_mul, e_quo, e_rem, e_eql, e_neq, e_lss, e_leq, e_gtr, e_geq, e_beq, e_bne, e_neg, e_not, e_pick, e_cond, e_gT, e_gF, e_len, e_lenA, e_lenS, e_ix, e_ixS, e_ldc, e_ldci, e_fa, rep_cl, rep_I, e_bx, okE_I, okE_B, okE_E8, okE_ints, stV_imm, stV_ints, j_and', j_or', List.getD_cons_zero, List.getD_cons_succ, List.map_cons, List.map_nil, decide_eq_true_eq, Int.toNat_natCast, Nat.mul_one, Nat.zero_add, true_and, and_true, List.length_map, Bool.not_eq_true', decide_eq_false_iff_not, nod_lists, e_lenL, e_ixL, okE_lists, bs1, bs1L, bs2L, e_app, e_appL, e_app0, e_app0L, e_slcLo, e_slcHi, e_slcLH, e_slcHH, e_slcLHH, e_callG, e_callY, e_calmG, e_slS0, e_slSLo, e_slSHi, e_slSLH, e_slSHH, e_slSLHH, e_max2, e_min2, e_max3, e_x20, e_x21, e_x30, e_x31, e_x32, nod2_ints, nod2_lists, rep_fl, bs0, e_nilE, if_true, if_false, cond_true, cond_false, decide_true, decide_false, eq_self, Bool.false_eq_true, false_implies, true_implies, ap_own, ap_full, e_slcLoL, e_slcHiL, e_slcLHL, hp_assoc, hp_cons, hp_nil, hp_len, hp_len_cons, hp_len_nil, lv_cons, lv_nil, vs_0, vs_s, spl_s, spl_0, spl_n, dr_s, dr_0, tk_s, tk_0, e_bxI, e_fac, e_facA, e_ldcA, e_ldcL, e_ldcF, okE_agg, ck_I, ck_B, ck_ints, ck_lists, ck_arr, ck_ptr, ck_cptr, ck_fn, all_c, all_n, stV_agg, stV_lists, stV_arr, stV_ptr, stV_cptr, stV_fn, nodL_ints, nodL_lists, nodL_ptr, nodL_cptr, nodL_fn, nodL_arr0, cl_arr, cl_ptr, cl_cptr, cl_fn, cl_lists, okE_arr, okE_fn, okE_ptr, okE_cptr, e_bd0, e_bd1, e_wr, Nat.reduceAdd, Nat.reduceLeDiff, Nat.reduceEqDiff, Nat.add_zero, Bool.and_self, Bool.true_and, Bool.and_true, e_lc0, e_lA0, e_lM0, e_sc0, e_rc0, e_rA0, e_lI0, e_sI0, e_cI0, e_lc1, e_lA1, e_lM1, e_sc1, e_rc1, e_rA1, e_lI1, e_sI1, e_cI1, e_lc2, e_lA2, e_lM2, e_sc2, e_rc2, e_rA2, e_lI2, e_sI2, e_cI2, e_lc3, e_lA3, e_lM3, e_sc3, e_rc3, e_rA3, e_lI3, e_sI3, e_cI3, e_lc4, e_lA4, e_lM4, e_sc4, e_rc4, e_rA4, e_lI4, e_sI4, e_cI4, e_lc5, e_lA5, e_lM5, e_sc5, e_rc5, e_rA5, e_lI5, e_sI5, e_cI5, own0_arr, own0_ints, own0_lists, own0_imm, own0_ptr, own0_cptr, own0_fn, own0_agg, e_appB, e_appB0, ck_sl, own0_sl, stV_sl, nodL_sl, cl_sl, okE_sl, e_mkM, e_mkI, e_mkIm, e_callB, nod_bfn, nod_ifc, nod_map, nodL_ifc, nodL_bfn, nodL_map, cl_ifc, cl_bfn, ck_ifc, ck_bfn, ck_map, stV_ifc, okE_ifc, okE_bfn, nod_arr, nodL_arr, e_addU, e_mulU, e_shrK, e_shlK, e_andK, e_cv64, e_cv32, e_callEG, e_callEY, e_callEB, e_zr, e_nilSl, e_ncP, e_ncC, e_npnP, e_npeP, e_npnC, e_npeC, e_npnN, e_npeN, e_ixAP, e_ldcP, e_ldcS, e_ldcV, e_ldcT, okE_nilP, ck_nilP, okE_nilI, ck_nilI, okE_str, ck_str, e_tlen, e_tix, e_teq, e_tne, e_tadd, e_tb, e_u8lss, e_u8gtr, noV_full, nod_arr, List.length_map, reduceIte, Int.reduceEq, Int.reduceNeg, ne_eq, not_true_eq_false, not_false_eq_true, Bool.not_true, Bool.not_false, Bool.true_or, Bool.or_true, Bool.false_or, Bool.or_false, Bool.and_true, Bool.and_false, Bool.false_and, Bool.not_not, Bool.or_self, List.length_nil, Int.ofNat_zero, Int.cast_ofNat_Int, Int.natCast_zero, beq_self_eq_true, Bool.true_eq_false]; subst hK hQ) | refine Jr.go ?_) | refine sd ?_)
    exact end1 (fzI _)
  rw [Decidable.not_not] at he
  obtain ⟨ho, n0, n2⟩ := scE_0 he
  obtain ⟨o1, o2, o3, o4, o5, o6, o7, o8, o9, o10⟩ := okAsk_parts ho
  rw [he]
  by_cases hd0 : d < 0
  · repeat (first | (with_reducible first | refine Ju.go ?_ | (refine Hd.go ?_; intro K Q hK hQ; simp only [nod_imm, e_neq, decide_true, Bool.not_true, Try.underlying3, e_lss, hd0, e_gF, cond_false, j_one, e_gtr, cond_true, List.getD_cons_succ, List.getD_cons_zero, e_cond, if_true]; subst hK hQ) | refine Jr.go ?_) | refine sd ?_)
    refine call_of (c15 _) ?_
    repeat (first | (with_reducible first | refine Ju.go ?_ | (refine Hd.go ?_; intro K Q hK hQ; simp only [Try.underlying3, Try.underlying4, Try.underlying5, Try.underlying9, Try.underlying29, Try.underlying57, Try.underlying55, j_one, j_side, j_tl, j_fl, nod_nod, nod_imm, nod_ints, nd_no, nd_own, nd_full, nd_fO, oF_ap, oF_succ, nod_sl, nod_ptr, nod_cptr, nod_fn, nod_junk, nodL_imm, nod_agg, nod_tup, nod2_imm, nod2_agg, cl_imm, cl_ints, cl_agg, e_add, e_sub, e_mul, e_quo, e_rem, e_eql, e_neq, e_lss, e_leq, e_gtr, e_geq, e_beq, e_bne, e_neg, e_not, e_pick, e_cond, e_gT, e_gF, e_len, e_lenA, e_lenS, e_ix, e_ixS, e_ldc, e_ldci, e_fa, rep_cl, rep_I, e_bx, okE_I, okE_B, okE_E8, okE_ints, stV_imm, stV_ints, j_and', j_or', List.getD_cons_zero, List.getD_cons_succ, List.map_cons, List.map_nil, decide_eq_true_eq, Int.toNat_natCast, Nat.mul_one, Nat.zero_add, true_and, and_true, List.length_map, Bool.not_eq_true', decide_eq_false_iff_not, nod_lists, e_lenL, e_ixL, okE_lists, bs1, bs1L, bs2L, e_app, e_appL, e_app0, e_app0L, e_slcLo, e_slcHi, e_slcLH, e_slcHH, e_slcLHH, e_callG, e_callY, e_calmG, e_slS0, e_slSLo, e_slSHi, e_slSLH, e_slSHH, e_slSLHH, e_max2, e_min2, e_max3, e_x20, e_x21, e_x30, e_x31, e_x32, nod2_ints, nod2_lists, rep_fl, bs0, e_nilE, if_true, if_false, cond_true, cond_false, decide_true, decide_false, eq_self, Bool.false_eq_true, false_implies, true_implies, ap_own, ap_full, e_slcLoL, e_slcHiL, e_slcLHL, hp_assoc, hp_cons, hp_nil, hp_len, hp_len_cons, hp_len_nil, lv_cons, lv_nil, vs_0, vs_s, spl_s, spl_0, spl_n, dr_s, dr_0, tk_s, tk_0, e_bxI, e_fac, e_facA, e_ldcA, e_ldcL, e_ldcF, okE_agg, ck_I, ck_B, ck_ints, ck_lists, ck_arr, ck_ptr, ck_cptr, ck_fn, all_c, all_n, stV_agg, stV_lists, stV_arr, stV_ptr, stV_cptr, stV_fn, nodL_ints, nodL_lists, nodL_ptr, nodL_cptr, nodL_fn, nodL_arr0, cl_arr, cl_ptr, cl_cptr, cl_fn, cl_lists, okE_arr, okE_fn, okE_ptr, okE_cptr, e_bd0, e_bd1, e_wr, Nat.reduceAdd, Nat.reduceLeDiff, Nat.reduceEqDiff, Nat.add_zero, Bool.and_self, Bool.true_and, Bool.and_true, e_lc0, e_lA0, e_lM0, e_sc0, e_rc0, e_rA0, e_lI0, e_sI0, e_cI0, e_lc1, e_lA1, e_lM1, e_sc1, e_rc1, e_rA1, e_lI1, e_sI1, e_cI1, e_lc2, e_lA2, e_lM2, e_sc2, e_rc2, e_rA2, e_lI2, e_sI2, e_cI2, e_lc3, e_lA3, e_lM3, e_sc3, e_rc3, e_rA3, e_lI3, e_sI3, e_cI3, e_lc4, e_lA4, e_lM4, e_sc4, e_rc4, e_rA4, e_lI4, e_sI4, e_cI4, e_lc5, e_lA5, e_lM5, e_sc5, e_rc5, e_rA5, e_lI5, e_sI5, e_cI5, own0_arr, own0_ints, own0_lists, own0_imm, own0_ptr, own0_cptr, own0_fn, own0_agg, e_appB, e_appB0, ck_sl, own0_sl, stV_sl, nodL_sl, cl_sl, okE_sl, e_mkM, e_mkI, e_mkIm, e_callB, nod_bfn, nod_ifc, nod_map, nodL_ifc, nodL_bfn, nodL_map, cl_ifc, cl_bfn, ck_ifc, ck_bfn, ck_map, stV_ifc, okE_ifc, okE_bfn, nod_arr, nodL_arr, e_addU, e_mulU, e_shrK, e_shlK, e_andK, e_cv64, e_cv32, e_callEG, e_callEY, e_callEB, e_zr, e_nilSl, e_ncP, e_ncC, e_npnP, e_npeP, e_npnC, e_npeC, e_npnN, e_npeN, e_ixAP, e_ldcP, e_ldcS, e_ldcV, e_ldcT, okE_nilP, ck_nilP, okE_nilI, ck_nilI, okE_str, ck_str, e_tlen, e_tix, e_teq, e_tne, e_tadd, e_tb, e_u8lss, e_u8gtr, noV_full, nod_arr, List.length_map, reduceIte, Int.reduceEq, Int.reduceNeg, ne_eq, not_true_eq_false, not_false_eq_true, Bool.not_true, Bool.not_false, Bool.true_or, Bool.or_true, Bool.false_or, Bool.or_false, Bool.and_true, Bool.and_false, Bool.false_and, Bool.not_not, Bool.or_self, List.length_nil, Int.ofNat_zero, Int.cast_ofNat_Int, Int.natCast_zero, beq_self_eq_true, Bool.true_eq_false]; subst hK hQ) | refine Jr.go ?_) | refine sd ?_)
    exact end1 (fzI _)
  by_cases hd1 : 1000000 < d
  · repeat (first | (with_reducible first | refine Ju.go ?_ | (refine Hd.go ?_; intro K Q hK hQ; simp only [nod_imm, e_neq, decide_true, Bool.not_true, Try.underlying3, e_lss, hd0, decide_false, e_gF, cond_false, j_one, e_gtr, hd1, List.getD_cons_succ, List.getD_cons_zero, e_cond, if_true]; subst hK hQ) | refine Jr.go ?_) | refine sd ?_)
    refine call_of (c15 _) ?_
    repeat (first | (with_reducible first | refine Ju.go ?_ | (refine Hd.go ?_; intro K Q hK hQ; simp only [Try.underlying3, Try.underlying4, Try.underlying5, Try.underlying9, Try.underlying29, Try.underlying57, Try.underlying55, j_one, j_side, j_tl, j_fl, nod_nod, nod_imm, nod_ints, nd_no, nd_own, nd_full, nd_fO, oF_ap, oF_succ, nod_sl, nod_ptr, nod_cptr, nod_fn, nod_junk, nodL_imm, nod_agg, nod_tup, nod2_imm, nod2_agg, cl_imm, cl_ints, cl_agg, e_add, e_sub, e_mul, e_quo, e_rem, e_eql, e_neq, e_lss, e_leq, e_gtr, e_geq, e_beq, e_bne, e_neg, e_not, e_pick, e_cond, e_gT, e_gF, e_len, e_lenA, e_lenS, e_ix, e_ixS, e_ldc, e_ldci, e_fa, rep_cl, rep_I, e_bx, okE_I, okE_B, okE_E8, okE_ints, stV_imm, stV_ints, j_and', j_or', List.getD_cons_zero, List.getD_cons_succ, List.map_cons, List.map_nil, decide_eq_true_eq, Int.toNat_natCast, Nat.mul_one, Nat.zero_add, true_and, and_true, List.length_map, Bool.not_eq_true', decide_eq_false_iff_not, nod_lists, e_lenL, e_ixL, okE_lists, bs1, bs1L, bs2L, e_app, e_appL, e_app0, e_app0L, e_slcLo, e_slcHi, e_slcLH, e_slcHH, e_slcLHH, e_callG, e_callY, e_calmG, e_slS0, e_slSLo, e_slSHi, e_slSLH, e_slSHH, e_slSLHH, e_max2, e_min2, e_max3, e_x20, e_x21, e_x30, e_x31, e_x32, nod2_ints, nod2_lists, rep_fl, bs0, e_nilE, if_true, if_false, cond_true, cond_false, decide_true, decide_false, eq_self, Bool.false_eq_true, false_implies, true_implies, ap_own, ap_full, e_slcLoL, e_slcHiL, e_slcLHL, hp_assoc, hp_cons, hp_nil, hp_len, hp_len_cons, hp_len_nil, lv_cons, lv_nil, vs_0, vs_s, spl_s, spl_0, spl_n, dr_s, dr_0, tk_s, tk_0, e_bxI, e_fac, e_facA, e_ldcA, e_ldcL, e_ldcF, okE_agg, ck_I, ck_B, ck_ints, ck_lists, ck_arr, ck_ptr, ck_cptr, ck_fn, all_c, all_n, stV_agg, stV_lists, stV_arr, stV_ptr, stV_cptr, stV_fn, nodL_ints, nodL_lists, nodL_ptr, nodL_cptr, nodL_fn, nodL_arr0, cl_arr, cl_ptr, cl_cptr, cl_fn, cl_lists, okE_arr, okE_fn, okE_ptr, okE_cptr, e_bd0, e_bd1, e_wr, Nat.reduceAdd, Nat.reduceLeDiff, Nat.reduceEqDiff, Nat.add_zero, Bool.and_self, Bool.true_and, Bool.and_true, e_lc0, e_lA0, e_lM0, e_sc0, e_rc0, e_rA0, e_lI0, e_sI0, e_cI0, e_lc1, e_lA1, e_lM1, e_sc1, e_rc1, e_rA1, e_lI1, e_sI1, e_cI1, e_lc2, e_lA2, e_lM2, e_sc2, e_rc2, e_rA2, e_lI2, e_sI2, e_cI2, e_lc3, e_lA3, e_lM3, e_sc3, e_rc3, e_rA3, e_lI3, e_sI3, e_cI3, e_lc4, e_lA4, e_lM4, e_sc4, e_rc4, e_rA4, e_lI4, e_sI4, e_cI4, e_lc5, e_lA5, e_lM5, e_sc5, e_rc5, e_rA5, e_lI5, e_sI5, e_cI5, own0_arr, own0_ints, own0_lists, own0_imm, own0_ptr, own0_cptr, own0_fn, own0_agg, e_appB, e_appB0, ck_sl, own0_sl, stV_sl, nodL_sl, cl_sl, okE_sl, e_mkM, e_mkI, e_mkIm, e_callB, nod_bfn, nod_ifc, nod_map, nodL_ifc, nodL_bfn, nodL_map, cl_ifc, cl_bfn, ck_ifc, ck_bfn, ck_map, stV_ifc, okE_ifc, okE_bfn, nod_arr, nodL_arr, e_addU, e_mulU, e_shrK, e_shlK, e_andK, e_cv64, e_cv32, e_callEG, e_callEY, e_callEB, e_zr, e_nilSl, e_ncP, e_ncC, e_npnP, e_npeP, e_npnC, e_npeC, e_npnN, e_npeN, e_ixAP, e_ldcP, e_ldcS, e_ldcV, e_ldcT, okE_nilP, ck_nilP, okE_nilI, ck_nilI, okE_str, ck_str, e_tlen, e_tix, e_teq, e_tne, e_tadd, e_tb, e_u8lss, e_u8gtr, noV_full, nod_arr, List.length_map, reduceIte, Int.reduceEq, Int.reduceNeg, ne_eq, not_true_eq_false, not_false_eq_true, Bool.not_true, Bool.not_false, Bool.true_or, Bool.or_true, Bool.false_or, Bool.or_false, Bool.and_true, Bool.and_false, Bool.false_and, Bool.not_not, Bool.or_self, List.length_nil, Int.ofNat_zero, Int.cast_ofNat_Int, Int.natCast_zero, beq_self_eq_true, Bool.true_eq_false]; subst hK hQ) | refine Jr.go ?_) | refine sd ?_)
    exact end1 (fzI _)
  have hne := te_ne sm ho
  have htl : s.te.length ≤ 500 := by
    have := (okSy.parts o1).2.1
    unfold okSz at this
    simp only [Bool.and_eq_true, decide_eq_true_eq] at this
    omega
  have hfl : ∀ e, e ∈ s.te → e.f.length ≤ 60 := fun e he => by
    have hm := List.all_eq_true.1 (okSy.parts o1).2.2.1 e he
    unfold okTe at hm
    simp only [Bool.and_eq_true, decide_eq_true_eq] at hm
    omega
  repeat (first | (with_reducible first | refine Ju.go ?_ | (refine Hd.go ?_; intro K Q hK hQ; simp only [nod_imm, e_neq, decide_true, Bool.not_true, Try.underlying3, e_lss, hd0, decide_false, e_gF, cond_false, j_one, e_gtr, hd1, List.getD_cons_succ, List.getD_cons_zero, e_cond, Bool.false_eq_true, if_false, nod_cptr, e_ldcA, lv_cons, List.length_nil, Nat.zero_add, Nat.reduceAdd, true_and, e_bx, okE_agg, all_c, ck_I, ck_arr, all_n, Bool.and_self, and_true, cl_agg, nod_ptr, e_sc0, Nat.reduceLeDiff, stV_agg, List.map_cons, nodL_imm, nodL_arr, nd_no, List.map_nil, spl_0, spl_n, e_fa, stV_arr, okE_arr, cl_arr, spl_s]; subst hK hQ) | refine Jr.go ?_) | refine sd ?_)
  refine loop_of (fun z : Nat × Hp => z.1 ≤ s.te.length ∧ ∀ e, e ∈ s.te.take z.1 → ∀ f, f ∈ e.f → f.t.size ≤ 29) (fun z => [I d, .cptr (syV s), .cptr (asV n t g k), .ptr H.length 0, I z.1]) (fun z => H ++ (.cells [I s.top, I s.gen, I s.cas, I s.cls, .arr ((s.te.take z.1).map teX) (oF z.1), .arr (s.pl.map plV) .no, .arr (s.se.map seV) .no] :: z.2)) (fun z => s.te.length - z.1) (0, []) ⟨Nat.zero_le _, fun e h => by simp at h⟩ rfl rfl ?_
  intro ⟨i, X⟩ ⟨hi, hsh⟩
  dsimp only at hi hsh ⊢
  by_cases hlt : i < s.te.length
  · have di : (i : Int) < s.te.length := by omega
    have tk := take_snocA s.te default hlt
    have hf6 := hfl _ (getD_memA s.te default hlt)
    have tl : (s.te.take i).length = i := by rw [List.length_take]; omega
    repeat (first | (with_reducible first | refine Ju.go ?_ | (refine Hd.go ?_; intro K Q hK hQ; simp only [List.getD_cons_succ, List.getD_cons_zero, nod_cptr, e_fac, Nat.reduceAdd, lv_cons, List.length_nil, Nat.zero_add, Nat.reduceLeDiff, true_and, e_ldcV, nod_arr, nd_no, e_lenA, List.length_map, nod_imm, Try.underlying3, e_lss, di, decide_true, e_cond, if_true, ix_te, Int.toNat_natCast, e_ldc, e_bd1, okE_I, cl_imm, spl_0, spl_n, e_bd0, e_bx, okE_agg, all_c, ck_I, ck_arr, all_n, Bool.and_self, and_true, hp_len, hp_len_cons, cl_agg, hp_assoc, hp_cons, nod_ptr, own0_imm, stY, stV_agg, List.map_cons, nodL_arr, nd_full, List.map_nil]; subst hK hQ) | refine Jr.go ?_) | refine sd ?_)
    generalize hte : s.te.getD i default = e at *
    refine loop_of (fun z : Nat × Hp => z.1 ≤ e.f.length ∧ ∀ f, f ∈ e.f.take z.1 → f.t.size ≤ 29) (fun z => [I d, .cptr (syV s), .cptr (asV n t g k), .ptr H.length 0, I i, .ptr (H.length + (X.length + 1)) 0, I z.1]) (fun z => H ++ (.cells [I s.top, I s.gen, I s.cas, I s.cls, .arr ((s.te.take i).map teX) (oF i), .arr (s.pl.map plV) .no, .arr (s.se.map seV) .no] :: (X ++ (.cells [I e.g, .arr (((e.f.take z.1).map renF).map foV) (oF z.1)] :: z.2)))) (fun z => e.f.length - z.1) (0, []) ⟨Nat.zero_le _, fun e h => by simp at h⟩ rfl (by first | rfl | simp) ?_
    intro ⟨q, Y⟩ ⟨hq, hqs⟩
    dsimp only at hq hqs ⊢
    generalize hZ : H ++ (.cells [I s.top, I s.gen, I s.cas, I s.cls, .arr ((s.te.take i).map teX) (oF i), .arr (s.pl.map plV) .no, .arr (s.se.map seV) .no] :: X) = Z
    have hZe : ∀ L, H ++ (.cells [I s.top, I s.gen, I s.cas, I s.cls, .arr ((s.te.take i).map teX) (oF i), .arr (s.pl.map plV) .no, .arr (s.se.map seV) .no] :: (X ++ L)) = Z ++ L := fun L => by rw [← hZ, List.append_assoc]; rfl
    have hZl : H.length + (X.length + 1) = Z.length := by rw [← hZ]; simp
    by_cases hql : q < e.f.length
    · rw [hZe]
      simp only [hZe, hZl]
      have dq : (q : Int) < e.f.length := by omega
      have tq := take_snocA e.f default hql
      have tlq : ((e.f.take q).map renF).length = q := by rw [List.length_map, List.length_take]; omega
      have hsz := (sm.fo _ (getD_memA s.te default hlt)).2
      rw [hte] at hsz
      have hsz := hsz _ (getD_memA e.f default hql)
      repeat (first | (with_reducible first | refine Ju.go ?_ | (refine Hd.go ?_; intro K Q hK hQ; simp only [List.getD_cons_succ, List.getD_cons_zero, nod_cptr, e_fac, Nat.reduceAdd, lv_cons, List.length_nil, Nat.zero_add, Nat.reduceLeDiff, true_and, e_ldcV, nod_arr, nd_no, nod_imm, ix_te, di, Int.toNat_natCast, hte, e_lenA, List.length_map, Try.underlying3, e_lss, dq, decide_true, e_cond, if_true, ix_fo, e_ldcA, e_bx, okE_agg, all_c, ck_I, ck_str, all_n, Bool.and_self, and_true, hp_len, hp_len_cons, cl_agg, hp_assoc, hp_cons, nod_ptr]; subst hK hQ) | refine Jr.go ?_) | refine sd ?_)
      generalize e.f.getD q default = f at *
      by_cases h29 : 29 < (f.t.size : Int)
      · repeat (first | (with_reducible first | refine Ju.go ?_ | (refine Hd.go ?_; intro K Q hK hQ; simp only [stY, Nat.zero_add, lv_cons, List.length_nil, Nat.reduceAdd, Nat.reduceLeDiff, stV_agg, List.map_cons, nodL_imm, List.map_nil, okE_agg, all_c, ck_I, ck_str, all_n, Bool.and_self, and_true, cl_agg, spl_0, spl_n, true_and, List.getD_cons_zero, List.getD_cons_succ, nod_ptr, e_fa, ldY, nod_imm, e_tlen, Try.underlying3, e_gtr, h29, decide_true, e_cond, if_true]; subst hK hQ) | refine Jr.go ?_) | refine sd ?_)
        refine call_of (c15 _) ?_
        repeat (first | (with_reducible first | refine Ju.go ?_ | (refine Hd.go ?_; intro K Q hK hQ; simp only [Try.underlying3, Try.underlying4, Try.underlying5, Try.underlying9, Try.underlying29, Try.underlying57, Try.underlying55, j_one, j_side, j_tl, j_fl, nod_nod, nod_imm, nod_ints, nd_no, nd_own, nd_full, nd_fO, oF_ap, oF_succ, nod_sl, nod_ptr, nod_cptr, nod_fn, nod_junk, nodL_imm, nod_agg, nod_tup, nod2_imm, nod2_agg, cl_imm, cl_ints, cl_agg, e_add, e_sub, e_mul, e_quo, e_rem, e_eql, e_neq, e_lss, e_leq, e_gtr, e_geq, e_beq, e_bne, e_neg, e_not, e_pick, e_cond, e_gT, e_gF, e_len, e_lenA, e_lenS, e_ix, e_ixS, e_ldc, e_ldci, e_fa, rep_cl, rep_I, e_bx, okE_I, okE_B, okE_E8, okE_ints, stV_imm, stV_ints, j_and', j_or', List.getD_cons_zero, List.getD_cons_succ, List.map_cons, List.map_nil, decide_eq_true_eq, Int.toNat_natCast, Nat.mul_one, Nat.zero_add, true_and, and_true, List.length_map, Bool.not_eq_true', decide_eq_false_iff_not, nod_lists, e_lenL, e_ixL, okE_lists, bs1, bs1L, bs2L, e_app, e_appL, e_app0, e_app0L, e_slcLo, e_slcHi, e_slcLH, e_slcHH, e_slcLHH, e_callG, e_callY, e_calmG, e_slS0, e_slSLo, e_slSHi, e_slSLH, e_slSHH, e_slSLHH, e_max2, e_min2, e_max3, e_x20, e_x21, e_x30, e_x31, e_x32, nod2_ints, nod2_lists, rep_fl, bs0, e_nilE, if_true, if_false, cond_true, cond_false, decide_true, decide_false, eq_self, Bool.false_eq_true, false_implies, true_implies, ap_own, ap_full, e_slcLoL, e_slcHiL, e_slcLHL, hp_assoc, hp_cons, hp_nil, hp_len, hp_len_cons, hp_len_nil, lv_cons, lv_nil, vs_0, vs_s, spl_s, spl_0, spl_n, dr_s, dr_0, tk_s, tk_0, e_bxI, e_fac, e_facA, e_ldcA, e_ldcL, e_ldcF, okE_agg, ck_I, ck_B, ck_ints, ck_lists, ck_arr, ck_ptr, ck_cptr, ck_fn, all_c, all_n, stV_agg, stV_lists, stV_arr, stV_ptr, stV_cptr, stV_fn, nodL_ints, nodL_lists, nodL_ptr, nodL_cptr, nodL_fn, nodL_arr0, cl_arr, cl_ptr, cl_cptr, cl_fn, cl_lists, okE_arr, okE_fn, okE_ptr, okE_cptr, e_bd0, e_bd1, e_wr, Nat.reduceAdd, Nat.reduceLeDiff, Nat.reduceEqDiff, Nat.add_zero, Bool.and_self, Bool.true_and, Bool.and_true, e_lc0, e_lA0, e_lM0, e_sc0, e_rc0, e_rA0, e_lI0, e_sI0, e_cI0, e_lc1, e_lA1, e_lM1, e_sc1, e_rc1, e_rA1, e_lI1, e_sI1, e_cI1, e_lc2, e_lA2, e_lM2, e_sc2, e_rc2, e_rA2, e_lI2, e_sI2, e_cI2, e_lc3, e_lA3, e_lM3, e_sc3, e_rc3, e_rA3, e_lI3, e_sI3, e_cI3, e_lc4, e_lA4, e_lM4, e_sc4, e_rc4, e_rA4, e_lI4, e_sI4, e_cI4, e_lc5, e_lA5, e_lM5, e_sc5, e_rc5, e_rA5, e_lI5, e_sI5, e_cI5, own0_arr, own0_ints, own0_lists, own0_imm, own0_ptr, own0_cptr, own0_fn, own0_agg, e_appB, e_appB0, ck_sl, own0_sl, stV_sl, nodL_sl, cl_sl, okE_sl, e_mkM, e_mkI, e_mkIm, e_callB, nod_bfn, nod_ifc, nod_map, nodL_ifc, nodL_bfn, nodL_map, cl_ifc, cl_bfn, ck_ifc, ck_bfn, ck_map, stV_ifc, okE_ifc, okE_bfn, nod_arr, nodL_arr, e_addU, e_mulU, e_shrK, e_shlK, e_andK, e_cv64, e_cv32, e_callEG, e_callEY, e_callEB, e_zr, e_nilSl, e_ncP, e_ncC, e_npnP, e_npeP, e_npnC, e_npeC, e_npnN, e_npeN, e_ixAP, e_ldcP, e_ldcS, e_ldcV, e_ldcT, okE_nilP, ck_nilP, okE_nilI, ck_nilI, okE_str, ck_str, e_tlen, e_tix, e_teq, e_tne, e_tadd, e_tb, e_u8lss, e_u8gtr, noV_full, nod_arr, List.length_map, reduceIte, Int.reduceEq, Int.reduceNeg, ne_eq, not_true_eq_false, not_false_eq_true, Bool.not_true, Bool.not_false, Bool.true_or, Bool.or_true, Bool.false_or, Bool.or_false, Bool.and_true, Bool.and_false, Bool.false_and, Bool.not_not, Bool.or_self, List.length_nil, Int.ofNat_zero, Int.cast_ofNat_Int, Int.natCast_zero, beq_self_eq_true, Bool.true_eq_false]; subst hK hQ) | refine Jr.go ?_) | refine sd ?_)
        exact ⟨fzI _, by rw [← hZ]; simp⟩
      · have es : (⟨#[42]⟩ : ByteArray).size + f.t.size ≤ 9223372036854775807 := by
          have : (⟨#[42]⟩ : ByteArray).size = 1 := rfl
          omega
        have est : (⟨#[42]⟩ : ByteArray) ++ f.t = star f.t := rfl
        repeat (first | (with_reducible first | refine Ju.go ?_ | (refine Hd.go ?_; intro K Q hK hQ; simp only [stY, Nat.zero_add, lv_cons, List.length_nil, Nat.reduceAdd, Nat.reduceLeDiff, stV_agg, List.map_cons, nodL_imm, List.map_nil, okE_agg, all_c, ck_I, ck_str, all_n, Bool.and_self, and_true, cl_agg, spl_0, spl_n, true_and, List.getD_cons_zero, List.getD_cons_succ, nod_ptr, e_fa, ldY, nod_imm, e_tlen, Try.underlying3, e_gtr, h29, decide_false, e_cond, Bool.false_eq_true, if_false, Try.underlying9, e_tadd, es, est, stV_imm, okE_str, cl_imm, spl_s, e_lM0, nodL_arr, vs_s, vs_0, ldYA, dr_0, tk_s, tk_0, nod_agg, bs1f, nod_arr, nd_full, app1f, oF_ap, tlq, e_sc0, stV_arr, okE_arr, cl_arr, e_add]; subst hK hQ) | refine Jr.go ?_) | refine sd ?_)
        refine ⟨(q + 1, Y ++ [.cells [I f.g, I f.k, I f.c, T (star f.t)]]), ⟨by dsimp only; omega, fun f' hf' => ?_⟩, ?_, ?_, by dsimp only; omega⟩
        · dsimp only at hf'
          rw [tq, List.mem_append, List.mem_singleton] at hf'
          rcases hf' with h | h
          · exact hqs f' h
          · rw [h]; omega
        · rfl
        · dsimp only
          rw [tq, List.map_append]; rfl
    · have dq : ¬ (q : Int) < e.f.length := by omega
      obtain rfl : q = e.f.length := by omega
      rw [List.take_length] at hqs ⊢
      clear hZe hZl hZ
      have nx : ∀ Y' : Hp, ∃ z : Nat × Hp, (z.1 ≤ s.te.length ∧ ∀ e, e ∈ s.te.take z.1 → ∀ f, f ∈ e.f → f.t.size ≤ 29) ∧ [I d, .cptr (syV s), .cptr (asV n t g k), .ptr H.length 0, I z.1] = [I d, .cptr (syV s), .cptr (asV n t g k), .ptr H.length 0, I ((i : Int) + 1)] ∧ H ++ (.cells [I s.top, I s.gen, I s.cas, I s.cls, .arr ((s.te.take z.1).map teX) (oF z.1), .arr (s.pl.map plV) .no, .arr (s.se.map seV) .no] :: z.2) = H ++ (.cells [I s.top, I s.gen, I s.cas, I s.cls, .arr ((s.te.take i ++ [e]).map teX) .own, .arr (s.pl.map plV) .no, .arr (s.se.map seV) .no] :: Y') ∧ s.te.length - z.1 < s.te.length - i := fun Y' =>
        ⟨(i + 1, Y'), ⟨by dsimp only; omega, fun e' he' => by
          dsimp only at he'
          rw [tk, List.mem_append, List.mem_singleton] at he'
          rcases he' with h | h
          · exact hsh e' h
          · rw [h]; exact hqs⟩, rfl, by dsimp only; rw [tk]; rfl, by dsimp only; omega⟩
      have ap : ∀ K ff, aApp 2 32 (.arr ((s.te.take i).map teX) (oF i)) (.arr [teX e] ff) K = ((oF i).ap = true ∧ ((s.te.take i).length + 1) * 32 ≤ 140737488355328 ∧ K (.arr ((s.te.take i ++ [e]).map teX) .own)) := fun K ff => e_appE (K := K) teX (fun _ => rfl) 32 (s.te.take i) [e] (oF i) ff
      by_cases hz : e.f = []
      · have ex : teX e = .agg [I e.g, .arr ((e.f.map renF).map foV) .full] := by unfold teX; rw [if_pos hz]
        have eo : oF e.f.length = .full := by rw [hz]; rfl
        rw [ex] at ap
        rw [eo]
        repeat (first | (with_reducible first | refine Ju.go ?_ | (refine Hd.go ?_; intro K Q hK hQ; simp only [List.getD_cons_succ, List.getD_cons_zero, nod_cptr, e_fac, Nat.reduceAdd, lv_cons, List.length_nil, Nat.zero_add, Nat.reduceLeDiff, true_and, e_ldcV, nod_arr, nd_no, nod_imm, ix_te, di, Int.toNat_natCast, hte, e_lenA, List.length_map, Try.underlying3, e_lss, dq, decide_false, e_cond, Bool.false_eq_true, if_false, nod_ptr, e_fa, e_lM0, nodL_arr, vs_s, vs_0, ldYA, dr_0, tk_s, tk_0, nod_agg, List.map_cons, nodL_imm, nd_full, List.map_nil, bs1tF, ap, oF_ap, tl, e_sc0, stV_arr, okE_arr, cl_arr, spl_s, spl_0, spl_n, e_add]; subst hK hQ) | refine Jr.go ?_) | refine sd ?_)
        exact nx _
      · have ex : teX e = .agg [I e.g, .arr ((e.f.map renF).map foV) .no] := by unfold teX; rw [if_neg hz]
        have eo : oF e.f.length = .own := oF_nd (fun h => hz (List.length_eq_zero_iff.1 h))
        rw [ex] at ap
        rw [eo]
        repeat (first | (with_reducible first | refine Ju.go ?_ | (refine Hd.go ?_; intro K Q hK hQ; simp only [List.getD_cons_succ, List.getD_cons_zero, nod_cptr, e_fac, Nat.reduceAdd, lv_cons, List.length_nil, Nat.zero_add, Nat.reduceLeDiff, true_and, e_ldcV, nod_arr, nd_no, nod_imm, ix_te, di, Int.toNat_natCast, hte, e_lenA, List.length_map, Try.underlying3, e_lss, dq, decide_false, e_cond, Bool.false_eq_true, if_false, nod_ptr, e_fa, e_lM0, nodL_arr, vs_s, vs_0, ldYA, dr_0, tk_s, tk_0, nod_agg, List.map_cons, nodL_imm, nd_own, List.map_nil, bs1t, nd_full, ap, oF_ap, tl, e_sc0, stV_arr, okE_arr, cl_arr, spl_s, spl_0, spl_n, e_add]; subst hK hQ) | refine Jr.go ?_) | refine sd ?_)
        exact nx _
  · have di : ¬ (i : Int) < s.te.length := by omega
    obtain rfl : i = s.te.length := by omega
    have sh : shT s := by rw [List.take_length] at hsh; exact hsh
    have eo : oF s.te.length = .own := oF_nd (fun h => hne (List.length_eq_zero_iff.1 h))
    have r1 : R64 (s.top + d) := by unfold R64; omega
    have t1 : s.top ≤ min 999999999999 (s.top + d) := by omega
    have t2 : min 999999999999 (s.top + d) ≤ 999999999999 := by omega
    rw [List.take_length, eo]
    have oa := ren_ask ho sh t1 t2
    have sa := ren_sm (top := min 999999999999 (s.top + d)) sm sh
    have ct20 : ∀ H, Ret Try.prog 20 [rsV s (min 999999999999 (s.top + d)), asV n t g k] H _ H := fun H => Ret.weakG (c20 (renS s (min 999999999999 (s.top + d))) n t g k H sa) (fun _ _ _ h => rel_rs h) rfl
    have ct37 : ∀ H, Ret Try.prog 37 [rsV s (min 999999999999 (s.top + d)), asV n t g k] H _ H := fun H => Ret.weakG (c37 (renS s (min 999999999999 (s.top + d))) n t g k H sa) (fun _ _ _ h => rel_rs h) rfl
    have cs20 := fun H => c20 s n t g k H sm
    have cs37 := fun H => c37 s n t g k H sm
    have hsc : scE [renS s (min 999999999999 (s.top + d))] n t g k = 0 := by
      unfold scE
      simp only [List.all_cons, List.all_nil, Bool.and_true]
      rw [if_pos oa, if_neg (by omega)]
    rw [spE_ok oa, spL_ok oa, ren_all sm o1 _ o2 o5 o6, tx_tb] at ct20
    rw [spE_ok ho, spL_ok ho, tx_tb] at cs20
    have hx : (trW (renS s (min 999999999999 (s.top + d))) n t g k).map Sd.x = ((trW s n t g k).map Sd.x).map sxX := ren_txW sm o1 _ o2 o5 o6
    rw [hx] at ct20
    rw [hsc, if_pos rfl, tw_eq sa oa (n.toNat + 1) (by omega), ren_tw sm o1 _ o5 o6] at ct37
    rw [he, if_pos rfl, tw_eq sm ho (n.toNat + 1) (by omega)] at cs37
    have hl := twR_len s t g k (n.toNat + 1)
    have hW8 := trW_len sm ho
    obtain ⟨w1, w2⟩ := txW_ok sm ho
    have hWe : txW s n t g k = (trW s n t g k).map Sd.x := rfl
    rw [hWe] at w1 w2
    have hW8' : ((trW s n t g k).map Sd.x).length ≤ 800 := by rw [List.length_map]; exact hW8
    generalize (trW s n t g k).map Sd.x = W at *
    generalize twR s t g k (n.toNat + 1) = l at *
    generalize hfe : (if (saW s n t g k).all gdW = true then (0 : Int) else 5) = fe at *
    clear hfe
    unfold rsV at ct20 ct37
    have hWl : ((W.map sxX).length : Int) = W.length := by rw [List.length_map]
    repeat (first | (with_reducible first | refine Ju.go ?_ | (refine Hd.go ?_; intro K Q hK hQ; simp only [List.getD_cons_succ, List.getD_cons_zero, nod_cptr, e_fac, Nat.reduceAdd, lv_cons, List.length_nil, Nat.zero_add, Nat.reduceLeDiff, true_and, e_ldcV, nod_arr, nd_no, e_lenA, List.length_map, nod_imm, Try.underlying3, e_lss, di, decide_false, e_cond, Bool.false_eq_true, if_false, e_ldc, e_add, r1, e_min2, nod_ptr, e_fa, Nat.add_zero, e_sc0, stV_imm, okE_I, cl_imm, spl_0, spl_n, e_ldcA, nod_agg, List.map_cons, nodL_imm, nodL_arr, List.map_nil]; subst hK hQ) | refine Jr.go ?_) | refine sd ?_)
    refine call_of (cs20 _) ?_
    repeat (first | (with_reducible first | refine Ju.go ?_ | (refine Hd.go ?_; intro K Q hK hQ; simp only [nod_tup, List.map_cons, nod2_arr, nd_no, nod2_imm, List.map_nil, e_x20, e_x21, List.getD_cons_succ, List.getD_cons_zero, nod_ptr, e_lA0, Nat.zero_add, lv_cons, List.length_nil, Nat.reduceAdd, Nat.reduceLeDiff, dr_0, tk_s, tk_0, nod_agg, nodL_imm, nodL_arr, nd_own, true_and, nod_cptr, e_ldcA]; subst hK hQ) | refine Jr.go ?_) | refine sd ?_)
    refine call_of (ct20 _) ?_
    repeat (first | (with_reducible first | refine Ju.go ?_ | (refine Hd.go ?_; intro K Q hK hQ; simp only [nod_tup, List.map_cons, nod2_arr, nd_no, nod2_imm, List.map_nil, e_x20, e_x21, List.getD_cons_succ, List.getD_cons_zero, nod_imm, Try.underlying29, e_neq, decide_true, Bool.not_true, nod_arr, Try.underlying3, e_lenA, List.length_map, e_gF, cond_false, j_one, e_cond, Bool.false_eq_true, if_false]; subst hK hQ) | refine Jr.go ?_) | refine sd ?_)
    generalize hZ : H ++ Blk.cells [I (min 999999999999 (s.top + d)), I s.gen, I s.cas, I s.cls, .arr (s.te.map teX) .own, .arr (s.pl.map plV) .no, .arr (s.se.map seV) .no] :: X = Z
    have hZl : ∃ Y, H ++ Y = Z := ⟨_, hZ⟩
    have hZg : Z[H.length]? = some (.cells [I (min 999999999999 (s.top + d)), I s.gen, I s.cas, I s.cls, .arr (s.te.map teX) .own, .arr (s.pl.map plV) .no, .arr (s.se.map seV) .no]) := by rw [← hZ, List.getElem?_append_right (Nat.le_refl _), Nat.sub_self]; rfl
    clear hZ
    refine loop_of (fun i : Nat => i ≤ W.length) (fun i => [.cptr (syV s), .cptr (asV n t g k), .ptr H.length 0, .arr (W.map tb) .no, .arr ((W.map sxX).map tb) .no, I i]) (fun _ => Z) (fun i => W.length - i) 0 (Nat.zero_le _) rfl rfl ?_
    intro i hi
    by_cases hlt2 : i < W.length
    · have d2 : (i : Int) < W.length := by omega
      have hm := getD_memA W default hlt2
      have hgx : (W.map sxX).getD i default = star (W.getD i default) := by
        rw [List.getD_eq_getElem?_getD, List.getElem?_map, List.getElem?_eq_getElem hlt2]
        have : W[i] = W.getD i default := by rw [List.getD_eq_getElem?_getD, List.getElem?_eq_getElem hlt2]; rfl
        show sxX W[i] = _
        rw [this]
        refine sxX_ne fun h => (w1 _ hm).1 ?_
        rw [h]; rfl
      have h30 : (W.getD i default).size ≤ 30 := w2 _ hm
      have es : (⟨#[42]⟩ : ByteArray).size + (W.getD i default).size ≤ 9223372036854775807 := by
        have : (⟨#[42]⟩ : ByteArray).size = 1 := rfl
        omega
      have est : (⟨#[42]⟩ : ByteArray) ++ W.getD i default = star (W.getD i default) := rfl
      repeat (first | (with_reducible first | refine Ju.go ?_ | (refine Hd.go ?_; intro K Q hK hQ; simp only [List.getD_cons_succ, List.getD_cons_zero, nod_arr, nd_no, e_lenA, List.length_map, nod_imm, Try.underlying3, e_lss, d2, decide_true, e_cond, if_true, ix_tb, Int.toNat_natCast, hgx, true_and, nod_cptr, e_ldc, Try.underlying9, e_tadd, es, est, e_tne, Bool.not_true, Bool.false_eq_true, if_false, e_add]; subst hK hQ) | refine Jr.go ?_) | refine sd ?_)
      exact ⟨i + 1, by omega, rfl, rfl, by omega⟩
    · have d2 : ¬ (i : Int) < W.length := by omega
      repeat (first | (with_reducible first | refine Ju.go ?_ | (refine Hd.go ?_; intro K Q hK hQ; simp only [List.getD_cons_succ, List.getD_cons_zero, nod_arr, nd_no, e_lenA, List.length_map, nod_imm, Try.underlying3, e_lss, d2, decide_false, e_cond, Bool.false_eq_true, if_false, nod_cptr, e_ldcA, lv_cons, List.length_nil, Nat.zero_add, Nat.reduceAdd, true_and, nod_agg, List.map_cons, nodL_imm, nodL_arr, List.map_nil]; subst hK hQ) | refine Jr.go ?_) | refine sd ?_)
      refine call_of (cs37 _) ?_
      repeat (first | (with_reducible first | refine Ju.go ?_ | (refine Hd.go ?_; intro K Q hK hQ; simp only [nod_tup, List.map_cons, nod2_arr, nd_no, nod2_imm, List.map_nil, e_x20, e_x21, List.getD_cons_succ, List.getD_cons_zero, nod_ptr, ldA_at hZg, Nat.zero_add, lv_cons, List.length_nil, Nat.reduceAdd, Nat.reduceLeDiff, dr_0, tk_s, tk_0, nod_agg, nodL_imm, nodL_arr, nd_own, true_and, nod_cptr, e_ldcA]; subst hK hQ) | refine Jr.go ?_) | refine sd ?_)
      refine call_of (ct37 _) ?_
      repeat (first | (with_reducible first | refine Ju.go ?_ | (refine Hd.go ?_; intro K Q hK hQ; simp only [nod_tup, List.map_cons, nod2_arr, nd_no, nod2_imm, List.map_nil, e_x20, e_x21, List.getD_cons_succ, List.getD_cons_zero, nod_imm, Try.underlying29, e_neq, decide_true, Bool.not_true, e_gF, cond_false, j_one, nod_arr, Try.underlying3, e_lenA, List.length_map, e_cond, Bool.false_eq_true, if_false]; subst hK hQ) | refine Jr.go ?_) | refine sd ?_)
      refine loop_of (fun i : Nat => i ≤ l.length) (fun i => [.arr (l.map twV) .no, .arr (l.map twV) .no, I i]) (fun _ => Z) (fun i => l.length - i) 0 (Nat.zero_le _) rfl rfl ?_
      intro i hi
      repeat (first | (with_reducible first | refine Ju.go ?_ | (refine Hd.go ?_; intro K Q hK hQ; simp only [List.getD_cons_zero, nod_arr, nd_no, e_lenA, List.length_map, List.getD_cons_succ, nod_imm, Try.underlying3, e_lss, e_cond, decide_eq_true_eq]; subst hK hQ) | refine Jr.go ?_) | refine sd ?_)
      by_cases hlt : i < l.length
      · have d : (i : Int) < l.length := by omega
        repeat (first | (with_reducible first | refine Ju.go ?_ | (refine Hd.go ?_; intro K Q hK hQ; simp only [d, if_true, List.getD_cons_zero, nod_arr, nd_no, List.getD_cons_succ, nod_imm, ix_tw, Int.toNat_natCast, true_and, nod_cptr, e_ldcA, lv_cons, List.length_nil, Nat.zero_add, Nat.reduceAdd, nod_agg, List.map_cons, nodL_imm, List.map_nil, eq88, e_cond, Bool.false_eq_true, if_false, Try.underlying3, e_add]; subst hK hQ) | refine Jr.go ?_) | refine sd ?_)
        exact ⟨i + 1, by omega, rfl, rfl, by omega⟩
      · have d : ¬ (i : Int) < l.length := by omega
        repeat (first | (with_reducible first | refine Ju.go ?_ | (refine Hd.go ?_; intro K Q hK hQ; simp only [d, if_false]; subst hK hQ) | refine Jr.go ?_) | refine sd ?_)
        refine call_of (c15 _) ?_
        repeat (first | (with_reducible first | refine Ju.go ?_ | (refine Hd.go ?_; intro K Q hK hQ; simp only [Try.underlying3, Try.underlying4, Try.underlying5, Try.underlying9, Try.underlying29, Try.underlying57, Try.underlying55, j_one, j_side, j_tl, j_fl, nod_nod, nod_imm, nod_ints, nd_no, nd_own, nd_full, nd_fO, oF_ap, oF_succ, nod_sl, nod_ptr, nod_cptr, nod_fn, nod_junk, nodL_imm, nod_agg, nod_tup, nod2_imm, nod2_agg, cl_imm, cl_ints, cl_agg, e_add, e_sub, e_mul, e_quo, e_rem, e_eql, e_neq, e_lss, e_leq, e_gtr, e_geq, e_beq, e_bne, e_neg, e_not, e_pick, e_cond, e_gT, e_gF, e_len, e_lenA, e_lenS, e_ix, e_ixS, e_ldc, e_ldci, e_fa, rep_cl, rep_I, e_bx, okE_I, okE_B, okE_E8, okE_ints, stV_imm, stV_ints, j_and', j_or', List.getD_cons_zero, List.getD_cons_succ, List.map_cons, List.map_nil, decide_eq_true_eq, Int.toNat_natCast, Nat.mul_one, Nat.zero_add, true_and, and_true, List.length_map, Bool.not_eq_true', decide_eq_false_iff_not, nod_lists, e_lenL, e_ixL, okE_lists, bs1, bs1L, bs2L, e_app, e_appL, e_app0, e_app0L, e_slcLo, e_slcHi, e_slcLH, e_slcHH, e_slcLHH, e_callG, e_callY, e_calmG, e_slS0, e_slSLo, e_slSHi, e_slSLH, e_slSHH, e_slSLHH, e_max2, e_min2, e_max3, e_x20, e_x21, e_x30, e_x31, e_x32, nod2_ints, nod2_lists, rep_fl, bs0, e_nilE, if_true, if_false, cond_true, cond_false, decide_true, decide_false, eq_self, Bool.false_eq_true, false_implies, true_implies, ap_own, ap_full, e_slcLoL, e_slcHiL, e_slcLHL, hp_assoc, hp_cons, hp_nil, hp_len, hp_len_cons, hp_len_nil, lv_cons, lv_nil, vs_0, vs_s, spl_s, spl_0, spl_n, dr_s, dr_0, tk_s, tk_0, e_bxI, e_fac, e_facA, e_ldcA, e_ldcL, e_ldcF, okE_agg, ck_I, ck_B, ck_ints, ck_lists, ck_arr, ck_ptr, ck_cptr, ck_fn, all_c, all_n, stV_agg, stV_lists, stV_arr, stV_ptr, stV_cptr, stV_fn, nodL_ints, nodL_lists, nodL_ptr, nodL_cptr, nodL_fn, nodL_arr0, cl_arr, cl_ptr, cl_cptr, cl_fn, cl_lists, okE_arr, okE_fn, okE_ptr, okE_cptr, e_bd0, e_bd1, e_wr, Nat.reduceAdd, Nat.reduceLeDiff, Nat.reduceEqDiff, Nat.add_zero, Bool.and_self, Bool.true_and, Bool.and_true, e_lc0, e_lA0, e_lM0, e_sc0, e_rc0, e_rA0, e_lI0, e_sI0, e_cI0, e_lc1, e_lA1, e_lM1, e_sc1, e_rc1, e_rA1, e_lI1, e_sI1, e_cI1, e_lc2, e_lA2, e_lM2, e_sc2, e_rc2, e_rA2, e_lI2, e_sI2, e_cI2, e_lc3, e_lA3, e_lM3, e_sc3, e_rc3, e_rA3, e_lI3, e_sI3, e_cI3, e_lc4, e_lA4, e_lM4, e_sc4, e_rc4, e_rA4, e_lI4, e_sI4, e_cI4, e_lc5, e_lA5, e_lM5, e_sc5, e_rc5, e_rA5, e_lI5, e_sI5, e_cI5, own0_arr, own0_ints, own0_lists, own0_imm, own0_ptr, own0_cptr, own0_fn, own0_agg, e_appB, e_appB0, ck_sl, own0_sl, stV_sl, nodL_sl, cl_sl, okE_sl, e_mkM, e_mkI, e_mkIm, e_callB, nod_bfn, nod_ifc, nod_map, nodL_ifc, nodL_bfn, nodL_map, cl_ifc, cl_bfn, ck_ifc, ck_bfn, ck_map, stV_ifc, okE_ifc, okE_bfn, nod_arr, nodL_arr, e_addU, e_mulU, e_shrK, e_shlK, e_andK, e_cv64, e_cv32, e_callEG, e_callEY, e_callEB, e_zr, e_nilSl, e_ncP, e_ncC, e_npnP, e_npeP, e_npnC, e_npeC, e_npnN, e_npeN, e_ixAP, e_ldcP, e_ldcS, e_ldcV, e_ldcT, okE_nilP, ck_nilP, okE_nilI, ck_nilI, okE_str, ck_str, e_tlen, e_tix, e_teq, e_tne, e_tadd, e_tb, e_u8lss, e_u8gtr, noV_full, nod_arr, List.length_map, reduceIte, Int.reduceEq, Int.reduceNeg, ne_eq, not_true_eq_false, not_false_eq_true, Bool.not_true, Bool.not_false, Bool.true_or, Bool.or_true, Bool.false_or, Bool.or_false, Bool.and_true, Bool.and_false, Bool.false_and, Bool.not_not, Bool.or_self, List.length_nil, Int.ofNat_zero, Int.cast_ofNat_Int, Int.natCast_zero, beq_self_eq_true, Bool.true_eq_false]; subst hK hQ) | refine Jr.go ?_) | refine sd ?_)
        obtain ⟨Y, rfl⟩ := hZl
        exact end1Y
end Go.Proofs.Ytgodfjbmblghnaa


set_option linter.unusedVariables false
set_option linter.unusedSimpArgs false
set_option linter.unnecessarySimpa false
set_option maxRecDepth 20000
set_option maxHeartbeats 2000000
namespace Go.Proofs.Ytgodfjbmblghnaa
open Go Go.Ab Go.Proofs
attribute [local congr] g_bin g_nilS g_nilP g_un g_ext g_bx g_fa g_ld g_st g_ix g_ixA g_slc g_mk g_bs g_bd g_nc g_cv g_len g_lenT g_app g_appB g_cpy g_mm g_call g_callG g_calm g_calmG g_range g_res g_pick g_cond g_loop g_Jv g_eqS g_eqP g_fd g_ixT g_ta g_lkp g_upd g_mkM g_appS g_inv g_callE g_callEG g_invE g_zr g_wr
open Go.ChangeShapes Go.WideShapes Go.ChangeAt Go.RowKit
theorem own : ownKnob Try.prog.godebug = none := by kernel_rfl
theorem laidOut : laidOutB Try.prog = true := by kernel_rfl
set_option maxRecDepth 100000 in
theorem lifted (os : Os) (started : os.Started) (H : Type) (enc : TypeId × Value → H) :
    ReturnsInHanded {} Try.checked os 12 .any (Rows.numeralRenamesSpec.pre6 enc Try.prog Try.f12 Rows.numeralRenamesRow.domain false) (Rows.numeralRenamesSpec.post enc Try.prog Try.f12 false true false false) := by
  refine returnsInHanded_of_change (C := Try.checked) own started (by kernel_rfl) Try.func12
    (ChangeSpec.witness6 (enc := enc) (C := Try.checked) false ⟨#[], #[.agg #[.int .i64 0, .int .i64 0, .int .i64 0, .int .i64 0, .slice none 0 0, .slice none 0 0, .slice none 0 0], .agg #[.int .i64 0, .int .i64 0, .int .i64 0, .int .i64 0], .int .i64 0], []⟩ 8 (by kernel_rfl) (by kernel_rfl) (by kernel_rfl) (by kernel_rfl)) ?_
  intro W base args ds gs before hval0 hW hcnd _
  have hval : ∀ (j : Nat) t v, Try.f12.params[j]? = some t → args[j]? = some v → Value.okWide Try.prog W .any base t v := hval0
  have hW' := hW
  obtain ⟨p, q, hA0, hV, rfl, hfz, hnd⟩ := hW
  have hA : DataW.TrodAll enc Try.prog W 0 (fun _ => true) true Try.f12.params.toList args.toList ds p := hA0
  rw [Try.params12] at hA hval
  obtain ⟨v0, vs0, d0, ds0, p0, q0, hargs, rfl, rfl, h0, r0⟩ := trodAll_cons hA
  obtain ⟨v1, vs1, d1, ds1, p1, q1, rfl, rfl, rfl, h1, r1⟩ := trodAll_cons r0
  obtain ⟨v2, vs2, d2, ds2, p2, q2, rfl, rfl, rfl, h2, r2⟩ := trodAll_cons r1
  obtain ⟨rfl, rfl, rfl⟩ := trodAll_nil r2
  obtain rfl : args = #[v0, v1, v2] := by cases args; simp_all
  obtain ⟨rfl, rfl⟩ := trodVars_none hV
  have lt0 : ∀ x ∈ p0, x.block < W.heap.size := by obtain ⟨m, hm⟩ := h0; exact DataW.trod_lt m _ _ _ hm
  obtain ⟨l0, w0, e0⟩ := in_sys (hval 0 _ v0 rfl rfl) h0
  have lt1 : ∀ x ∈ p1, x.block < W.heap.size := by obtain ⟨m, hm⟩ := h1; exact DataW.trod_lt m _ _ _ hm
  obtain ⟨n1, t1, g1, k1, e1⟩ := in_ask (hval 1 _ v1 rfl rfl) h1
  have lt2 : ∀ x ∈ p2, x.block < W.heap.size := by obtain ⟨m, hm⟩ := h2; exact DataW.trod_lt m _ _ _ hm
  obtain ⟨n2, e2, w2⟩ := in_int Try.underlying3 (hval 2 _ v2 rfl rfl) h2
  clear hA0 hval0
  refine (bridge (args := [syV l0, asV n1 t1 g1 k1, I n2]) (ra := #[v0, v1, v2]) (c12 l0 n1 t1 g1 k1 n2 [] w0) rfl (by intro a ha; simp at ha; rcases ha with rfl | rfl | rfl <;> rfl) (fun i => ?_)).mono fun e W' ⟨he, bel⟩ => ?_
  · match i with
    | 0 => exact e0
    | 1 => exact e1
    | 2 => exact e2
    | i + 3 => exact .junk _
  · subst he
    exact ⟨_, rfl, _, _, _, [], _, [], hW', trodAll_mk1 (shut_bool Try.underlying4 _), (trodAll_cons_mk (Below.trod laidOut (by kernel_rfl) (of_decide_eq_true (by kernel_rfl)) h0 bel lt0) (trodAll_cons_mk (Below.trod laidOut (by kernel_rfl) (of_decide_eq_true (by kernel_rfl)) h1 bel lt1) (trodAll_cons_mk (Below.trod laidOut (by kernel_rfl) (of_decide_eq_true (by kernel_rfl)) h2 bel lt2) trodAll_mk0))), rfl, bel.frame _, fun h => by cases h⟩
theorem over : Rows.numeralRenamesRow.holds Try.pinned (OpenSpec.ofChange Rows.numeralRenamesSpec) :=
  OpenClaim.holds_of_wide 12 Try.f12 rfl rfl rfl rfl rfl rfl rfl ⟨rfl, rfl, rfl, rfl, rfl⟩ rfl rfl rfl rfl rfl (by kernel_rfl) Try.func12 (by kernel_rfl)
    (of_decide_eq_true (by kernel_rfl)) (by unfold Func.isWrapper; first | (rw [if_pos (by decide +kernel)]; kernel_rfl) | (rw [if_neg (by decide +kernel)]; exact ⟨rfl, rfl⟩))
    (fun os started H enc _ => lifted os started H enc)
theorem numeralRenames_holds : Rows.NumeralRenamesSaid := over
#print axioms numeralRenames_holds
end Go.Proofs.Ytgodfjbmblghnaa

