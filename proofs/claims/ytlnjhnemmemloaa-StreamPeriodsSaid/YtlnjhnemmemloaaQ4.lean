/- Only whole periods are left out or repeated, m periods become m Den / Num ones, a pace n / n changes nothing, and signs come in order: true for every input. -/
import Derived.Test.YtlnjhnemmemloaaP6
import Derived.Test.YtlnjhnemmemloaaProg
import Derived.Test.YtlnjhnemmemloaaRows
set_option linter.unusedVariables false
set_option maxRecDepth 20000
set_option maxHeartbeats 4000000
namespace Go.Proofs.Ytlnjhnemmemloaa
open Go Go.Ab Go.Proofs
def an4 : An := { imm := [8, 13], jn := [(2, [0, 1, 2, 4, 8, 44]), (8, [0, 1, 2, 4, 8, 11, 12]), (10, [0, 1, 2, 4, 8, 11, 75]), (11, [0, 1, 2, 8, 11]), (14, [0, 1, 2, 8, 11, 13, 14]), (16, [0, 1, 8, 11, 13, 132]), (24, [0, 1, 8, 11, 13, 16, 17]), (27, [8, 11, 13, 18]), (30, [8, 11, 13, 18, 226])], lp := [(5, [0, 1, 2, 4, 8, 11, 12]), (18, [0, 1, 8, 11, 13, 16]), (27, [8, 11, 13, 18])], loud := [47, 60, 65, 243], ord := [] }
def vc4 (C : Cb) (a0 a1 a2 a3 a4 : V) (H : Hp) (R : List V → Hp → Prop) : Prop :=
 C.aBx true 2 a3.nod H fun v1 H2 =>
 Jn (fun l3 H4 =>
 aCond (l3.getD 5 .junk).nod (
 C.callE 15 [] H4 fun v6 H7 =>
 R [v6] H7) (
 C.aAppS 1 8 (V.arr [] .full) (l3.getD 0 .junk).nod.nod H4 fun v8 H9 =>
 C.aBd [(I 0), (I 0), (V.arr [] .full), (V.arr [] .full), (V.arr [] .full), (I 0)] [(0, 1, (I 1)), (1, 1, (I 1)), (2, 1, v8.nod.nod)] fun v10 =>
 C.aBx false 6 (V.agg [(I 0), (I 0), (V.arr [] .full), (V.arr [] .full), (V.arr [] .full), (I 0)]) H9 fun v11 H12 =>
 C.aSt 6 v11.nod v10 H12 fun v13 H14 =>
 LoopA (fun l15 H16 K17 =>
 C.aBin (Try.prog.underlying 3) .lss (l15.getD 6 .junk).nod.nod (l15.getD 2 .junk).nod.nod fun v18 =>
 aCond v18.nod (
 Jn (fun l19 H20 =>
 C.aFA 2 1 false (l19.getD 5 .junk).nod fun v22 =>
 C.aLd 1 false true v22.nod H20 fun v23 H24 =>
 C.aAppS 1 8 v23 (l19.getD 1 .junk).nod.nod H24 fun v25 H26 =>
 C.aFA 2 1 false (l19.getD 5 .junk).nod fun v27 =>
 C.aSt 1 v27.nod v25 H26 fun v28 H29 =>
 C.aBin (Try.prog.underlying 3) .add (l19.getD 6 .junk).nod.nod (I 1) fun v30 =>
 K17 [(l19.getD 0 .junk), (l19.getD 1 .junk), (l19.getD 2 .junk), (l19.getD 3 .junk), (l19.getD 4 .junk), (l19.getD 5 .junk), v30] H29)
 (fun R21 =>
 C.aFA 3 1 false (l15.getD 5 .junk).nod fun v31 =>
 C.aLd 1 false true v31.nod H16 fun v32 H33 =>
 C.aFA 2 1 false (l15.getD 5 .junk).nod fun v34 =>
 C.aLd 1 false false v34.nod H33 fun v35 H36 =>
 C.aLen v35.nod fun v37 =>
 C.aBS 1 1 (I 0) [(0, v37.nod)] fun v38 =>
 C.aAppS 1 8 v32 v38.nod H36 fun v39 H40 =>
 C.aFA 3 1 false (l15.getD 5 .junk).nod fun v41 =>
 C.aSt 1 v41.nod v39 H40 fun v42 H43 =>
 R21 [(l15.getD 0 .junk), (l15.getD 1 .junk), (l15.getD 2 .junk), (l15.getD 3 .junk), (l15.getD 4 .junk), (l15.getD 5 .junk), (l15.getD 6 .junk)] H43)) (
 Jn (fun l44 H45 =>
 C.aLd 6 true false (l44.getD 4 .junk).nod H45 fun v47 H48 =>
 C.callE 17 [v47.nod] H48 fun v49 H50 =>
 C.aUn .not v49.nod fun v51 =>
 aCond v51.nod (
 C.callE 15 [] H50 fun v52 H53 =>
 R [v52] H53) (
 Jn (fun l54 H55 =>
 C.aFA 1 1 false (l54.getD 3 .junk).nod fun v57 =>
 C.aLd 1 false false v57.nod H55 fun v58 H59 =>
 C.aBin (Try.prog.underlying 3) .mul (l54.getD 2 .junk).nod.nod v58.nod fun v60 =>
 C.aFA 0 1 false (l54.getD 3 .junk).nod fun v61 =>
 C.aLd 1 false false v61.nod H59 fun v62 H63 =>
 C.aBin (Try.prog.underlying 3) .quo v60.nod v62.nod fun v64 =>
 Jn (fun l65 H66 =>
 aCond (l65.getD 5 .junk).nod (
 R [(B false)] H66) (
 LoopA (fun l68 H69 K70 =>
 C.aFA 2 1 false (l68.getD 4 .junk).nod fun v71 =>
 C.aLd 1 false false v71.nod H69 fun v72 H73 =>
 C.aLen v72.nod fun v74 =>
 C.aBin (Try.prog.underlying 3) .lss (l68.getD 5 .junk).nod.nod v74.nod fun v75 =>
 aCond v75.nod (
 Jn (fun l76 H77 =>
 C.aFA 2 1 false (l76.getD 4 .junk).nod fun v79 =>
 C.aLd 1 false false v79.nod H77 fun v80 H81 =>
 C.aIx 1 v80.nod (l76.getD 5 .junk).nod.nod fun v82 =>
 C.aLd 1 false false v82.nod H81 fun v83 H84 =>
 C.aBin (Try.prog.underlying 3) .neq v83.nod (l76.getD 6 .junk).nod.nod fun v85 =>
 aCond v85.nod (
 R [(B false)] H84) (
 C.aBin (Try.prog.underlying 3) .add (l76.getD 5 .junk).nod.nod (I 1) fun v86 =>
 K70 [(l76.getD 0 .junk), (l76.getD 1 .junk), (l76.getD 2 .junk), (l76.getD 3 .junk), (l76.getD 4 .junk), v86] H84))
 (fun R78 =>
 C.aLen (l68.getD 0 .junk).nod.nod fun v87 =>
 C.aBin (Try.prog.underlying 3) .lss (l68.getD 5 .junk).nod.nod v87.nod fun v88 =>
 aCond v88.nod (
 C.aIx 1 (l68.getD 0 .junk).nod.nod (l68.getD 5 .junk).nod.nod fun v89 =>
 C.aLd 1 false false v89.nod H73 fun v90 H91 =>
 R78 [(l68.getD 0 .junk), (l68.getD 1 .junk), (l68.getD 2 .junk), (l68.getD 3 .junk), (l68.getD 4 .junk), (l68.getD 5 .junk), v90] H91) (
 C.aLen (l68.getD 0 .junk).nod.nod fun v92 =>
 C.aBin (Try.prog.underlying 3) .sub (l68.getD 5 .junk).nod.nod v92.nod fun v93 =>
 C.aLen (l68.getD 1 .junk).nod.nod fun v94 =>
 C.aBin (Try.prog.underlying 3) .rem v93.nod v94.nod fun v95 =>
 C.aIx 1 (l68.getD 1 .junk).nod.nod v95.nod fun v96 =>
 C.aLd 1 false false v96.nod H73 fun v97 H98 =>
 R78 [(l68.getD 0 .junk), (l68.getD 1 .junk), (l68.getD 2 .junk), (l68.getD 3 .junk), (l68.getD 4 .junk), (l68.getD 5 .junk), v97] H98))) (
 Jn (fun l99 H100 =>
 LoopA (fun l102 H103 K104 =>
 C.aFA 4 1 false (l102.getD 2 .junk).nod fun v105 =>
 C.aLd 1 false false v105.nod H103 fun v106 H107 =>
 C.aLen v106.nod fun v108 =>
 C.aBin (Try.prog.underlying 3) .lss (l102.getD 3 .junk).nod.nod v108.nod fun v109 =>
 aCond v109.nod (
 Jn (fun l110 H111 =>
 aCond (l110.getD 4 .junk).nod (
 R [(B false)] H111) (
 C.aBin (Try.prog.underlying 3) .add (l110.getD 3 .junk).nod.nod (I 1) fun v113 =>
 K104 [(l110.getD 0 .junk), (l110.getD 1 .junk), (l110.getD 2 .junk), v113] H111))
 (fun R112 =>
 C.aFA 4 1 false (l102.getD 2 .junk).nod fun v114 =>
 C.aLd 1 false false v114.nod H107 fun v115 H116 =>
 C.aIx 2 v115.nod (l102.getD 3 .junk).nod.nod fun v117 =>
 C.aFA 1 1 false v117.nod fun v118 =>
 C.aLd 1 false false v118.nod H116 fun v119 H120 =>
 C.aFA 4 1 false (l102.getD 1 .junk).nod fun v121 =>
 C.aLd 1 false false v121.nod H120 fun v122 H123 =>
 C.aIx 2 v122.nod (l102.getD 3 .junk).nod.nod fun v124 =>
 C.aFA 1 1 false v124.nod fun v125 =>
 C.aLd 1 false false v125.nod H123 fun v126 H127 =>
 C.aBin (Try.prog.underlying 9) .neq v119.nod v126.nod fun v128 =>
 Jv (fun v129 H130 =>
 Jv (fun v149 H150 =>
 R112 [(l102.getD 0 .junk), (l102.getD 1 .junk), (l102.getD 2 .junk), (l102.getD 3 .junk), v149] H150)
 (fun R151 =>
 aG v129.nod false (
 C.aFA 0 1 false (l102.getD 0 .junk).nod fun v152 =>
 C.aLd 1 false false v152.nod H130 fun v153 H154 =>
 C.aFA 1 1 false (l102.getD 0 .junk).nod fun v155 =>
 C.aLd 1 false false v155.nod H154 fun v156 H157 =>
 C.aBin (Try.prog.underlying 3) .eql v153.nod v156.nod fun v158 =>
 aG v158.nod true (
 C.aFA 4 1 false (l102.getD 2 .junk).nod fun v159 =>
 C.aLd 1 false false v159.nod H157 fun v160 H161 =>
 C.aIx 2 v160.nod (l102.getD 3 .junk).nod.nod fun v162 =>
 C.aFA 0 1 false v162.nod fun v163 =>
 C.aLd 1 false false v163.nod H161 fun v164 H165 =>
 C.aFA 4 1 false (l102.getD 1 .junk).nod fun v166 =>
 C.aLd 1 false false v166.nod H165 fun v167 H168 =>
 C.aIx 2 v167.nod (l102.getD 3 .junk).nod.nod fun v169 =>
 C.aFA 0 1 false v169.nod fun v170 =>
 C.aLd 1 false false v170.nod H168 fun v171 H172 =>
 C.aBin (Try.prog.underlying 3) .neq v164.nod v171.nod fun v173 =>
 R151 v173.nod.nod H172) (
 R151 (B false) H157)) (
 UD = UD ∧
 UD = UD ∧
 UD = UD ∧
 UD = UD ∧
 UD = UD ∧
 UD = UD ∧
 UD = UD ∧
 UD = UD ∧
 UD = UD ∧
 UD = UD ∧
 UD = UD ∧
 UD = UD ∧
 UD = UD ∧
 R151 (B true) H130)))
 (fun R131 =>
 aG v128.nod false (
 C.aBin (Try.prog.underlying 3) .gtr (l102.getD 3 .junk).nod.nod (I 0) fun v132 =>
 aG v132.nod true (
 C.aFA 4 1 false (l102.getD 2 .junk).nod fun v133 =>
 C.aLd 1 false false v133.nod H127 fun v134 H135 =>
 C.aIx 2 v134.nod (l102.getD 3 .junk).nod.nod fun v136 =>
 C.aFA 0 1 false v136.nod fun v137 =>
 C.aLd 1 false false v137.nod H135 fun v138 H139 =>
 C.aFA 4 1 false (l102.getD 2 .junk).nod fun v140 =>
 C.aLd 1 false false v140.nod H139 fun v141 H142 =>
 C.aBin (Try.prog.underlying 3) .sub (l102.getD 3 .junk).nod.nod (I 1) fun v143 =>
 C.aIx 2 v141.nod v143.nod fun v144 =>
 C.aFA 0 1 false v144.nod fun v145 =>
 C.aLd 1 false false v145.nod H142 fun v146 H147 =>
 C.aBin (Try.prog.underlying 3) .lss v138.nod v146.nod fun v148 =>
 R131 v148.nod.nod H147) (
 R131 (B false) H127)) (
 UD = UD ∧
 UD = UD ∧
 UD = UD ∧
 UD = UD ∧
 UD = UD ∧
 UD = UD ∧
 UD = UD ∧
 UD = UD ∧
 UD = UD ∧
 UD = UD ∧
 UD = UD ∧
 UD = UD ∧
 UD = UD ∧
 UD = UD ∧
 R131 (B true) H127)))) (
 C.aFA 4 1 false (l102.getD 2 .junk).nod fun v174 =>
 C.aLd 1 false false v174.nod H107 fun v175 H176 =>
 C.aLen v175.nod fun v177 =>
 C.aBin (Try.prog.underlying 3) .eql v177.nod (I 0) fun v178 =>
 Jv (fun v179 H180 =>
 Jv (fun v194 H195 =>
 R [v194] H195)
 (fun R196 =>
 aG v179.nod true (
 C.call 15 [] H180 fun v197 H198 =>
 R196 v197.nod H198) (
 R196 (B false) H180)))
 (fun R181 =>
 aG v178.nod false (
 C.aFA 4 1 false (l102.getD 2 .junk).nod fun v182 =>
 C.aLd 1 false false v182.nod H176 fun v183 H184 =>
 C.aIx 2 v183.nod (I 2) fun v185 =>
 C.aFA 0 1 false v185.nod fun v186 =>
 C.aLd 1 false false v186.nod H184 fun v187 H188 =>
 C.aFA 2 1 false (l102.getD 2 .junk).nod fun v189 =>
 C.aLd 1 false false v189.nod H188 fun v190 H191 =>
 C.aLen v190.nod fun v192 =>
 C.aBin (Try.prog.underlying 3) .eql v187.nod v192.nod fun v193 =>
 R181 v193.nod H191) (
 R181 (B true) H176))))
 [(l99.getD 0 .junk), (l99.getD 1 .junk), (l99.getD 2 .junk), (l99.getD 3 .junk)] H100)
 (fun R101 =>
 R101 [(l68.getD 2 .junk), (l68.getD 3 .junk), (l68.getD 4 .junk), (I 0)] H73)))
 [(l65.getD 0 .junk), (l65.getD 1 .junk), (l65.getD 2 .junk), (l65.getD 3 .junk), (l65.getD 4 .junk), (I 0)] H66))
 (fun R67 =>
 C.aBin (Try.prog.underlying 30) .neq (l54.getD 6 .junk).nod.nod (I 0) fun v199 =>
 Jv (fun v200 H201 =>
 Jv (fun v212 H213 =>
 Jv (fun v224 H225 =>
 R67 [(l54.getD 0 .junk), (l54.getD 1 .junk), (l54.getD 3 .junk), (l54.getD 4 .junk), (l54.getD 5 .junk), v224] H225)
 (fun R226 =>
 aG v212.nod false (
 C.aFA 3 1 false (l54.getD 5 .junk).nod fun v227 =>
 C.aLd 1 false false v227.nod H213 fun v228 H229 =>
 C.aLen v228.nod fun v230 =>
 C.aBin (Try.prog.underlying 3) .neq v230.nod (I 0) fun v231 =>
 R226 v231.nod H229) (
 R226 (B true) H213)))
 (fun R214 =>
 aG v200.nod false (
 C.aFA 4 1 false (l54.getD 5 .junk).nod fun v215 =>
 C.aLd 1 false false v215.nod H201 fun v216 H217 =>
 C.aLen v216.nod fun v218 =>
 C.aFA 4 1 false (l54.getD 4 .junk).nod fun v219 =>
 C.aLd 1 false false v219.nod H217 fun v220 H221 =>
 C.aLen v220.nod fun v222 =>
 C.aBin (Try.prog.underlying 3) .neq v218.nod v222.nod fun v223 =>
 R214 v223.nod H221) (
 R214 (B true) H201)))
 (fun R202 =>
 aG v199.nod false (
 C.aFA 2 1 false (l54.getD 5 .junk).nod fun v203 =>
 C.aLd 1 false false v203.nod H63 fun v204 H205 =>
 C.aLen v204.nod fun v206 =>
 C.aLen (l54.getD 0 .junk).nod.nod fun v207 =>
 C.aLen (l54.getD 1 .junk).nod.nod fun v208 =>
 C.aBin (Try.prog.underlying 3) .mul v64.nod.nod v208.nod fun v209 =>
 C.aBin (Try.prog.underlying 3) .add v207.nod v209.nod fun v210 =>
 C.aBin (Try.prog.underlying 3) .neq v206.nod v210.nod fun v211 =>
 R202 v211.nod H205) (
 R202 (B true) H63))))
 (fun R56 =>
 C.aLd 6 true false (l44.getD 4 .junk).nod H50 fun v232 H233 =>
 C.aLd 2 true false (l44.getD 3 .junk).nod H233 fun v234 H235 =>
 C.callE 16 [v232.nod, v234.nod] H235 fun v236 H237 =>
 C.aExt 0 v236.nod.nod fun v238 =>
 C.aExt 1 v236.nod.nod fun v239 =>
 C.aBx true 6 v238.nod H237 fun v240 H241 =>
 R56 [(l44.getD 0 .junk), (l44.getD 1 .junk), (l44.getD 2 .junk), (l44.getD 3 .junk), (l44.getD 4 .junk), v240, v239] H241)))
 (fun R46 =>
 Jn (fun l242 H243 =>
 aCond (l242.getD 6 .junk).nod (
 C.aBd [(I 0), (V.imm (.string (ByteArray.mk #[])))] [(0, 1, (l242.getD 3 .junk).nod.nod), (1, 1, (V.imm (.string (ByteArray.mk #[97]))))] fun v245 =>
 C.aBd [(I 0), (V.imm (.string (ByteArray.mk #[])))] [(0, 1, (l242.getD 3 .junk).nod.nod), (1, 1, (V.imm (.string (ByteArray.mk #[98]))))] fun v246 =>
 C.aFA 2 1 false (l242.getD 5 .junk).nod fun v247 =>
 C.aLd 1 false false v247.nod H243 fun v248 H249 =>
 C.aLen v248.nod fun v250 =>
 C.aBd [(I 0), (V.imm (.string (ByteArray.mk #[])))] [(0, 1, v250.nod), (1, 1, (V.imm (.string (ByteArray.mk #[99]))))] fun v251 =>
 C.aBS 2 3 (V.agg [(I 0), (V.imm (.string (ByteArray.mk #[])))]) [(0, (own0 v245 (l242.getD 3 .junk).nod).nod), (1, (own0 v246 (l242.getD 3 .junk).nod).nod), (2, (own0 v251 v250).nod)] fun v252 =>
 C.aFA 4 1 false (l242.getD 5 .junk).nod fun v253 =>
 C.aSt 1 v253.nod v252 H249 fun v254 H255 =>
 R46 [(l242.getD 0 .junk), (l242.getD 1 .junk), (l242.getD 2 .junk), (l242.getD 4 .junk), (l242.getD 5 .junk)] H255) (
 R46 [(l242.getD 0 .junk), (l242.getD 1 .junk), (l242.getD 2 .junk), (l242.getD 4 .junk), (l242.getD 5 .junk)] H243))
 (fun R244 =>
 C.aBin (Try.prog.underlying 3) .geq (l15.getD 3 .junk).nod.nod (I 0) fun v256 =>
 Jv (fun v257 H258 =>
 R244 [(l15.getD 0 .junk), (l15.getD 1 .junk), (l15.getD 2 .junk), (l15.getD 3 .junk), (l15.getD 4 .junk), (l15.getD 5 .junk), v257] H258)
 (fun R259 =>
 aG v256.nod true (
 C.aFA 2 1 false (l15.getD 5 .junk).nod fun v260 =>
 C.aLd 1 false false v260.nod H16 fun v261 H262 =>
 C.aLen v261.nod fun v263 =>
 C.aBin (Try.prog.underlying 3) .leq (l15.getD 3 .junk).nod.nod v263.nod fun v264 =>
 R259 v264.nod H262) (
 R259 (B false) H16))))))
 [(l3.getD 0 .junk), (l3.getD 1 .junk), (l3.getD 2 .junk), (l3.getD 3 .junk), (l3.getD 4 .junk), v11, (I 0)] H14))
 (fun R5 =>
 C.aLen a0.nod.nod fun v265 =>
 C.aBin (Try.prog.underlying 3) .gtr v265.nod (I 20) fun v266 =>
 Jv (fun v267 H268 =>
 Jv (fun v272 H273 =>
 Jv (fun v277 H278 =>
 Jv (fun v281 H282 =>
 Jv (fun v285 H286 =>
 R5 [a0, a1, a2, a4, v1, v285] H286)
 (fun R287 =>
 aG v281.nod false (
 C.aLd 2 true false v1.nod H282 fun v288 H289 =>
 C.callE 18 [v288.nod] H289 fun v290 H291 =>
 C.aUn .not v290.nod fun v292 =>
 R287 v292.nod H291) (
 R287 (B true) H282)))
 (fun R283 =>
 aG v277.nod false (
 C.aBin (Try.prog.underlying 3) .gtr a2.nod.nod (I 12) fun v284 =>
 R283 v284.nod H278) (
 R283 (B true) H278)))
 (fun R279 =>
 aG v272.nod false (
 C.aBin (Try.prog.underlying 3) .lss a2.nod.nod (I 0) fun v280 =>
 R279 v280.nod H273) (
 R279 (B true) H273)))
 (fun R274 =>
 aG v267.nod false (
 C.aLen a1.nod.nod fun v275 =>
 C.aBin (Try.prog.underlying 3) .gtr v275.nod (I 10) fun v276 =>
 R274 v276.nod H268) (
 R274 (B true) H268)))
 (fun R269 =>
 aG v266.nod false (
 C.aLen a1.nod.nod fun v270 =>
 C.aBin (Try.prog.underlying 3) .lss v270.nod (I 1) fun v271 =>
 R269 v271.nod H2) (
 R269 (B true) H2)))
theorem wf4 : (Nat.ble 5 Try.f4.ntmps && wfC an4 Try.f4.ntmps (Try.f4.body.getD .skip)) = true := by kernel_rfl
theorem tie4 (C : Cb) (a0 a1 a2 a3 a4 : V) (H : Hp) (R : List V → Hp → Prop) : wpG Try.prog C an4 (Try.f4.body.getD .skip) (argF [a0, a1, a2, a3, a4]) H (retG Try.prog C Try.f4 R) (fun _ _ _ => False) (retG Try.prog C Try.f4 R) = vc4 C a0 a1 a2 a3 a4 H R := by kernel_rfl
theorem mk4 (a0 a1 a2 a3 a4 : V) {H : Hp} {v : V} {H1 : Hp} (hd : v.Nd) (hn : H.length ≤ H1.length) (hb : H1 = H ∨ ∀ (b : Nat) (blk : Blk), H1[b]? = some blk → H[b]? = some blk ∨ BelB H1.length blk) (h : vc4 (real Try.prog) a0 a1 a2 a3 a4 H (retF v H1)) : Ret Try.prog 4 [a0, a1, a2, a3, a4] H v H1 :=
 ret_mk (an := an4) hm Try.call4 Try.func4 rfl wf4 hd hn hb (Eq.mpr (tie4 (real Try.prog) a0 a1 a2 a3 a4 H (retF v H1)) h)
theorem mkE4 (a0 a1 a2 a3 a4 : V) {H : Hp} {Q : V → Hp → Prop} (h : vc4 (real Try.prog) a0 a1 a2 a3 a4 H (retW Q)) : RetE Try.prog 4 [a0, a1, a2, a3, a4] H Q :=
 retE_mk (an := an4) hm Try.call4 Try.func4 rfl wf4 (Eq.mpr (tie4 (real Try.prog) a0 a1 a2 a3 a4 H (retW Q)) h)
theorem mko4 (a0 a1 a2 a3 a4 : V) {H : Hp} {xs : List V} {H1 : Hp} (hn : H.length ≤ H1.length) (hb : H1 = H ∨ ∀ (b : Nat) (blk : Blk), H1[b]? = some blk → H[b]? = some blk ∨ BelB H1.length blk) (h : vc4 (real Try.prog) a0 a1 a2 a3 a4 H (retO xs H1)) : Ret Try.prog 4 [a0, a1, a2, a3, a4] H (.arr xs .own) H1 :=
 ret_mko (an := an4) (t := 10) hm Try.call4 Try.func4 rfl wf4 rfl hn hb (Eq.mpr (tie4 (real Try.prog) a0 a1 a2 a3 a4 H (retO xs H1)) h)
end Go.Proofs.Ytlnjhnemmemloaa
set_option linter.unusedSimpArgs false
set_option linter.unnecessarySimpa false
set_option maxHeartbeats 2000000
namespace Go.Proofs.Ytlnjhnemmemloaa
open Go Go.Ab Go.Proofs
attribute [local congr] g_bin g_nilS g_nilP g_un g_ext g_bx g_fa g_ld g_st g_ix g_ixA g_slc g_mk g_bs g_bd g_nc g_cv g_len g_lenT g_app g_appB g_cpy g_mm g_call g_callG g_calm g_calmG g_range g_res g_pick g_cond g_loop g_Jv g_eqS g_eqP g_fd g_ixT g_ta g_lkp g_upd g_mkM g_appS g_inv g_callE g_callEG g_invE g_zr g_wr
theorem app_ints {b n : Nat} {xs ys : List Int} {f : Fl} {H : Hp} {KH : V → Hp → Prop} (hx : xs.length = n) (h : n ≠ 0 → H[b]? = some (.cells (xs.map I))) (hb : n + ys.length ≤ 1000000)
    (k : ∀ G, (∀ c, c < H.length → (n ≠ 0 → b ≠ c) → G[c]? = H[c]?) → (n + ys.length ≠ 0 → G[H.length]? = some (.cells ((xs ++ ys).map I))) → H.length ≤ G.length → KH (blV 1 H.length (n + ys.length)) G) : aAppS 1 8 (blV 1 b n) (ints ys f) H KH := by
  refine app_bl (cs := xs.map I) (fun e => by subst e; rw [List.length_eq_zero_iff.1 hx]; rfl) h (by rw [List.length_map]; omega) (fun c hc => by
    obtain ⟨y, -, rfl⟩ := List.mem_map.1 hc; rfl) (fun e he => by
    obtain ⟨y, -, rfl⟩ := List.mem_map.1 he
    exact ⟨rfl, fun c hc => by simp only [V.cl, List.mem_singleton] at hc; subst hc; rfl⟩) (by rw [List.length_map]; omega) (fun e1 e2 => ?_) (fun e => ?_)
  · have e2' := List.map_eq_nil_iff.1 e2
    have := k H (fun c _ _ => rfl) (fun h => by rw [e2'] at h; simp at h; exact absurd e1 h) (Nat.le_refl _)
    rw [e1, e2'] at this
    exact this
  · rw [List.length_map] at e ⊢
    rw [flat_I, ← List.map_append]
    refine k _ (fun c hc hne => ?_) (fun _ => ?_) (by rw [List.length_append, killB_len]; omega)
    · rw [List.getElem?_append_left (by rw [killB_len]; exact hc), killB_ne _ _ _ hne]
    · rw [List.getElem?_append_right (by rw [killB_len]; exact Nat.le_refl _), killB_len, Nat.sub_self]; rfl
theorem nd6 {a b : V} (ha : a.nodL = a) (hb : b.nodL = b) (c : List V) : (V.agg [I 1, I 1, a, b, .arr c .no, I 0]).Nd := by
 show V.agg [_, _, a.nodL, b.nodL, _, _] = _
 rw [ha, hb]; rfl
structure Pb (H : Hp) (lead pd : List Int) (bx i bS bP : Nat) (sg : List Sgn) (G : Hp) : Prop where
 x : G[bx]? = some (.cells [I 1, I 1, blV 1 bS (lead.length + i * pd.length), blV 1 bP i, .arr (sg.map sgV) .full, I 0])
 s : lead.length + i * pd.length ≠ 0 → G[bS]? = some (.cells ((mkSm lead pd i).map I)) ∧ bS ≠ bx ∧ H.length ≤ bS
 p : i ≠ 0 → G[bP]? = some (.cells ((mkPe lead pd i).map I)) ∧ bP ≠ bx ∧ H.length ≤ bP ∧ bP ≠ bS
 bx : H.length ≤ bx
 fr : ∀ c, c < H.length → G[c]? = H[c]?
theorem Pb.ln {H : Hp} {lead pd : List Int} {bx i bS bP : Nat} {sg : List Sgn} {G : Hp} (h : Pb H lead pd bx i bS bP sg G) : H.length ≤ G.length := by have := get_lt h.x; have := h.bx; omega
theorem Pb.self {H : Hp} {lead pd : List Int} {bx i bS bP : Nat} {sg : List Sgn} {G : Hp} (h : Pb H lead pd bx i bS bP sg G) : G.set bx (.cells [I 1, I 1, blV 1 bS (lead.length + i * pd.length), blV 1 bP i, .arr (sg.map sgV) .full, I 0]) = G := by
 have hb := get_lt h.x
 refine List.ext_getElem? fun c => ?_
 by_cases e : bx = c
 ·subst e; rw [List.getElem?_set_self hb]; exact h.x.symm
 ·exact get_ne e
theorem Pb.sgs {H : Hp} {lead pd : List Int} {bx i bS bP : Nat} {sg : List Sgn} {G : Hp} (h : Pb H lead pd bx i bS bP sg G) (sg' : List Sgn) : Pb H lead pd bx i bS bP sg' (G.set bx (.cells [I 1, I 1, blV 1 bS (lead.length + i * pd.length), blV 1 bP i, .arr (sg'.map sgV) .full, I 0])) := by
 have hb := get_lt h.x
 refine ⟨List.getElem?_set_self hb, fun e => ?_, fun e => ?_, h.bx, fun c hc => ?_⟩
 ·obtain ⟨h1, h2, h3⟩ := h.s e
  exact ⟨by rw [get_ne h2.symm]; exact h1, h2, h3⟩
 ·obtain ⟨h1, h2, h3⟩ := h.p e
  exact ⟨by rw [get_ne h2.symm]; exact h1, h2, h3⟩
 ·rw [get_ne (by have := h.bx; omega)]; exact h.fr c hc
theorem mkP_at (lead pd : List Int) (M : Nat) (at' : Int) : mkP lead pd M at' = ⟨1, 1, mkSm lead pd M, mkPe lead pd M, mkSg lead pd M at', 0⟩ := rfl
theorem Pb.to17 {H : Hp} {lead pd : List Int} {bx i bS bP : Nat} {at' : Int} {G : Hp} (h : Pb H lead pd bx i bS bP (mkSg lead pd i at') G) (sm : Sm (mkP lead pd i at')) (hpd : 1 ≤ pd.length) :
    RetE Try.prog 17 [.agg [I 1, I 1, blV 1 bS (lead.length + i * pd.length), blV 1 bP i, .arr ((mkSg lead pd i at').map sgV) .full, I 0]] G fun v G' => v = B (okSp (mkP lead pd i at')) ∧ G'[bx]? = some (.cells [I 1, I 1, ints (mkSm lead pd i) .no, ints (mkPe lead pd i) .no, .arr ((mkSg lead pd i at').map sgV) .no, I 0]) ∧ (∀ c, c < H.length → G'[c]? = H[c]?) ∧ H.length ≤ G'.length := by
  have hxl := get_lt h.x
  have hbx := h.bx
  refine RetE.noC (b := bx) (o := 4) (xs := (mkSg lead pd i at').map sgV) ?_ h.x rfl (fun a ha => by
    simp only [List.mem_singleton] at ha; subst ha
    exact nd6 (blV_nodL _ _ _) (blV_nodL _ _ _) _)
  refine RetE.fzB (b := bx) (o := 3) (k := bP) (n := i) (xs := mkPe lead pd i) ?_ (mkPe_len _ _ _).symm (fun e => by
    obtain ⟨h1, h2, -⟩ := h.p e
    exact ⟨by rw [get_ne h2.symm]; exact h1, h2⟩) (List.getElem?_set_self hxl) rfl (fun a ha => by
    simp only [List.mem_singleton] at ha; subst ha
    exact nd6 (blV_nodL _ _ _) rfl _)
  refine RetE.fzB (b := bx) (o := 2) (k := bS) (n := lead.length + i * pd.length) (xs := mkSm lead pd i) ?_ (mkSm_len _ _ _).symm (fun e => by
    obtain ⟨h1, h2, -⟩ := h.s e
    refine ⟨?_, h2⟩
    rw [get_ne h2.symm, killB_ne _ _ _ (fun e => (h.p e).2.2.2), get_ne h2.symm]
    exact h1) (List.getElem?_set_self (by rw [killB_len, List.length_set]; exact hxl)) rfl (fun a ha => by
    simp only [List.mem_singleton] at ha; subst ha
    exact nd6 rfl rfl _)
  refine RetE.mono (RetE.ofRet (c17 (mkP lead pd i at') _ sm)) ?_
  rintro v G' ⟨rfl, rfl⟩
  refine ⟨rfl, List.getElem?_set_self (by rw [killB_len, List.length_set, killB_len, List.length_set]; exact hxl), fun c hc => ?_, ?_⟩
  · rw [get_ne (by omega), killB_ne _ _ _ (fun e => by have := (h.s e).2.2; omega), get_ne (by omega), killB_ne _ _ _ (fun e => by have := (h.p e).2.2.1; omega), get_ne (by omega)]
    exact h.fr c hc
  · simp only [List.length_set, killB_len]
    exact h.ln
def sg3 (lead pd : List Int) (M : Nat) (at' : Int) : List Sgn := [⟨at', ByteArray.mk #[97]⟩, ⟨at', ByteArray.mk #[98]⟩, ⟨((lead.length + M * pd.length : Nat) : Int), ByteArray.mk #[99]⟩]
theorem bs_sg3 (a b c : Sgn) (z : V) (K : V → Prop) : aBS 2 3 z [(0, .agg [I a.a, T a.n]), (1, .agg [I b.a, T b.n]), (2, .agg [I c.a, T c.n])] K = K (.arr ([a, b, c].map sgV) .full) := by
 have h : ∀ g : Sgn, okE 2 (.agg [I g.a, T g.n]) = True := fun g => eq_true ⟨rfl, fun c hc => by
  simp only [V.cl, List.mem_cons, List.not_mem_nil, or_false] at hc
  rcases hc with rfl | rfl <;> rfl⟩
 simp only [aBS, aPs, h, true_and, setP]
 exact propext ⟨fun h => h.2, fun h => ⟨⟨by decide, by decide, by decide⟩, h⟩⟩
theorem mkP_sm {lead pd : List Int} {M : Nat} {at' : Int} (h1 : lead.length ≤ 20) (h2 : pd.length ≤ 10) (h3 : M ≤ 12) : Sm (mkP lead pd M at') := by
 have hip : M * pd.length ≤ 12 * 10 := Nat.mul_le_mul h3 h2
 refine ⟨by show (mkSm lead pd M).length ≤ _; rw [mkSm_len]; omega, by show (mkPe lead pd M).length ≤ _; rw [mkPe_len]; omega, ?_, ?_⟩
 ·show (mkSg lead pd M at').length ≤ _
  unfold mkSg; split <;> simp
 ·show ∀ g, g ∈ mkSg lead pd M at' → _
  unfold mkSg
  intro g hg
  split at hg
  ·simp only [List.mem_cons, List.not_mem_nil, or_false] at hg
   rcases hg with rfl | rfl | rfl <;> (show (1 : Nat) ≤ _; omega)
  ·cases hg
theorem c4 (lead pd : List Int) (m : Int) (k : Pc) (at' : Int) (H : Hp) (w0 : lead.length ≤ 9223372036854775807) (w1 : pd.length ≤ 9223372036854775807) : Ret Try.prog 4 [ints lead .no, ints pd .no, I m, pcV k, I at'] H (B true) H := by
 refine mk4 _ _ _ _ _ rfl (Nat.le_refl _) (.inl rfl) ?_
 simp only [vc4, real]
 by_cases hq : (decide (20 < (lead.length : Int)) || decide ((pd.length : Int) < 1) || decide (10 < (pd.length : Int)) || decide (m < 0) || decide (12 < m)) = true
 ·repeat (first | (with_reducible first | refine Ju.go ?_ | (refine Hd.go ?_; intro K Q hK hQ; simp only [nod_agg, List.map_cons, nodL_imm, List.map_nil, e_bxI, okE_agg, lv_cons, List.length_nil, Nat.zero_add, Nat.reduceAdd, all_c, ck_I, all_n, Bool.and_self, and_true, true_and, nod_ints, nd_no, e_len, nod_imm, Try.underlying3, e_gtr, e_lss, e_gF, j_or', j_one, hq, nod_cptr, e_ldcA, cond_true, List.getD_cons_succ, List.getD_cons_zero, e_cond, if_true]; subst hK hQ) | refine Jr.go ?_) | refine sd ?_)
  refine call_of (c15x _) ?_
  repeat (first | (with_reducible first | refine Ju.go ?_ | (refine Hd.go ?_; intro K Q hK hQ; simp only [Try.underlying3, Try.underlying4, Try.underlying5, Try.underlying9, Try.underlying22, Try.underlying23, Try.underlying30, Try.underlying43, Try.underlying44, Try.underlying57, Try.underlying100, Try.underlying124, Try.underlying184, j_one, j_side, j_tl, j_fl, nod_nod, nod_imm, nod_ints, nd_no, nd_own, nd_full, nd_fO, oF_ap, oF_succ, nod_sl, nod_ptr, nod_cptr, nod_fn, nod_junk, nodL_imm, nod_agg, nod_tup, nod2_imm, nod2_agg, cl_imm, cl_ints, cl_agg, e_add, e_sub, e_mul, e_quo, e_rem, e_eql, e_neq, e_lss, e_leq, e_gtr, e_geq, e_beq, e_bne, e_neg, e_not, e_pick, e_cond, e_gT, e_gF, e_len, e_lenA, e_lenS, e_ix, e_ixS, e_ldc, e_ldci, e_fa, rep_cl, rep_I, e_bx, okE_I, okE_B, okE_E8, okE_ints, stV_imm, stV_ints, j_and', j_or', List.getD_cons_zero, List.getD_cons_succ, List.map_cons, List.map_nil, decide_eq_true_eq, Int.toNat_natCast, Nat.mul_one, Nat.zero_add, true_and, and_true, List.length_map, Bool.not_eq_true', decide_eq_false_iff_not, nod_lists, e_lenL, e_ixL, okE_lists, bs1, bs1L, bs2L, e_app, e_appL, e_app0, e_app0L, e_slcLo, e_slcHi, e_slcLH, e_slcHH, e_slcLHH, e_callG, e_callY, e_calmG, e_slS0, e_slSLo, e_slSHi, e_slSLH, e_slSHH, e_slSLHH, e_max2, e_min2, e_max3, e_x20, e_x21, e_x30, e_x31, e_x32, nod2_ints, nod2_lists, rep_fl, bs0, e_nilE, if_true, if_false, cond_true, cond_false, decide_true, decide_false, eq_self, Bool.false_eq_true, false_implies, true_implies, ap_own, ap_full, e_slcLoL, e_slcHiL, e_slcLHL, hp_assoc, hp_cons, hp_nil, hp_len, hp_len_cons, hp_len_nil, lv_cons, lv_nil, vs_0, vs_s, spl_s, spl_0, spl_n, dr_s, dr_0, tk_s, tk_0, e_bxI, e_fac, e_facA, e_ldcA, e_ldcL, e_ldcF, okE_agg, ck_I, ck_B, ck_ints, ck_lists, ck_arr, ck_ptr, ck_cptr, ck_fn, all_c, all_n, stV_agg, stV_lists, stV_arr, stV_ptr, stV_cptr, stV_fn, nodL_ints, nodL_lists, nodL_ptr, nodL_cptr, nodL_fn, nodL_arr0, cl_arr, cl_ptr, cl_cptr, cl_fn, cl_lists, okE_arr, okE_fn, okE_ptr, okE_cptr, e_bd0, e_bd1, e_wr, Nat.reduceAdd, Nat.reduceLeDiff, Nat.reduceEqDiff, Nat.add_zero, Bool.and_self, Bool.true_and, Bool.and_true, e_lc0, e_lA0, e_lM0, e_sc0, e_rc0, e_rA0, e_lI0, e_sI0, e_cI0, e_lc1, e_lA1, e_lM1, e_sc1, e_rc1, e_rA1, e_lI1, e_sI1, e_cI1, e_lc2, e_lA2, e_lM2, e_sc2, e_rc2, e_rA2, e_lI2, e_sI2, e_cI2, e_lc3, e_lA3, e_lM3, e_sc3, e_rc3, e_rA3, e_lI3, e_sI3, e_cI3, e_lc4, e_lA4, e_lM4, e_sc4, e_rc4, e_rA4, e_lI4, e_sI4, e_cI4, e_lc5, e_lA5, e_lM5, e_sc5, e_rc5, e_rA5, e_lI5, e_sI5, e_cI5, own0_arr, own0_ints, own0_lists, own0_imm, own0_ptr, own0_cptr, own0_fn, own0_agg, e_appB, e_appB0, ck_sl, own0_sl, stV_sl, nodL_sl, cl_sl, okE_sl, e_mkM, e_mkI, e_mkIm, e_callB, nod_bfn, nod_ifc, nod_map, nodL_ifc, nodL_bfn, nodL_map, cl_ifc, cl_bfn, ck_ifc, ck_bfn, ck_map, stV_ifc, okE_ifc, okE_bfn, nod_arr, nodL_arr, e_addU, e_mulU, e_shrK, e_shlK, e_andK, e_cv64, e_cv32, e_callEG, e_callEY, e_callEB, e_zr, e_nilSl, e_ncP, e_ncC, e_npnP, e_npeP, e_npnC, e_npeC, e_npnN, e_npeN, e_ixAP, e_ldcP, e_ldcS, e_ldcV, e_ldcT, okE_nilP, ck_nilP, okE_nilI, ck_nilI, okE_str, ck_str, e_tlen, e_tix, e_teq, e_tne, e_tadd, e_tb, e_u8lss, e_u8gtr, noV_full, nod_arr, List.length_map, reduceIte, Int.reduceEq, Int.reduceNeg, ne_eq, not_true_eq_false, not_false_eq_true, Bool.not_true, Bool.not_false, Bool.true_or, Bool.or_true, Bool.false_or, Bool.or_false, Bool.and_true, Bool.and_false, Bool.false_and, Bool.not_not, Bool.or_self, List.length_nil, Int.ofNat_zero, Int.cast_ofNat_Int, Int.natCast_zero, beq_self_eq_true, Bool.true_eq_false]; subst hK hQ) | refine Jr.go ?_) | refine sd ?_)
  exact end1 (fzI _)
 ·rw [Bool.not_eq_true] at hq
  repeat (first | (with_reducible first | refine Ju.go ?_ | (refine Hd.go ?_; intro K Q hK hQ; simp only [nod_agg, List.map_cons, nodL_imm, List.map_nil, e_bxI, okE_agg, lv_cons, List.length_nil, Nat.zero_add, Nat.reduceAdd, all_c, ck_I, all_n, Bool.and_self, and_true, true_and, nod_ints, nd_no, e_len, nod_imm, Try.underlying3, e_gtr, e_lss, e_gF, j_or', j_one, hq, nod_cptr, e_ldcA, cond_false]; subst hK hQ) | refine Jr.go ?_) | refine sd ?_)
  refine call_of (c18 k _) ?_
  cases hk : okPc k
  ·repeat (first | (with_reducible first | refine Ju.go ?_ | (refine Hd.go ?_; intro K Q hK hQ; simp only [nod_imm, e_not, Bool.not_false, List.getD_cons_succ, List.getD_cons_zero, e_cond, if_true]; subst hK hQ) | refine Jr.go ?_) | refine sd ?_)
   refine call_of (c15x _) ?_
   repeat (first | (with_reducible first | refine Ju.go ?_ | (refine Hd.go ?_; intro K Q hK hQ; simp only [Try.underlying3, Try.underlying4, Try.underlying5, Try.underlying9, Try.underlying22, Try.underlying23, Try.underlying30, Try.underlying43, Try.underlying44, Try.underlying57, Try.underlying100, Try.underlying124, Try.underlying184, j_one, j_side, j_tl, j_fl, nod_nod, nod_imm, nod_ints, nd_no, nd_own, nd_full, nd_fO, oF_ap, oF_succ, nod_sl, nod_ptr, nod_cptr, nod_fn, nod_junk, nodL_imm, nod_agg, nod_tup, nod2_imm, nod2_agg, cl_imm, cl_ints, cl_agg, e_add, e_sub, e_mul, e_quo, e_rem, e_eql, e_neq, e_lss, e_leq, e_gtr, e_geq, e_beq, e_bne, e_neg, e_not, e_pick, e_cond, e_gT, e_gF, e_len, e_lenA, e_lenS, e_ix, e_ixS, e_ldc, e_ldci, e_fa, rep_cl, rep_I, e_bx, okE_I, okE_B, okE_E8, okE_ints, stV_imm, stV_ints, j_and', j_or', List.getD_cons_zero, List.getD_cons_succ, List.map_cons, List.map_nil, decide_eq_true_eq, Int.toNat_natCast, Nat.mul_one, Nat.zero_add, true_and, and_true, List.length_map, Bool.not_eq_true', decide_eq_false_iff_not, nod_lists, e_lenL, e_ixL, okE_lists, bs1, bs1L, bs2L, e_app, e_appL, e_app0, e_app0L, e_slcLo, e_slcHi, e_slcLH, e_slcHH, e_slcLHH, e_callG, e_callY, e_calmG, e_slS0, e_slSLo, e_slSHi, e_slSLH, e_slSHH, e_slSLHH, e_max2, e_min2, e_max3, e_x20, e_x21, e_x30, e_x31, e_x32, nod2_ints, nod2_lists, rep_fl, bs0, e_nilE, if_true, if_false, cond_true, cond_false, decide_true, decide_false, eq_self, Bool.false_eq_true, false_implies, true_implies, ap_own, ap_full, e_slcLoL, e_slcHiL, e_slcLHL, hp_assoc, hp_cons, hp_nil, hp_len, hp_len_cons, hp_len_nil, lv_cons, lv_nil, vs_0, vs_s, spl_s, spl_0, spl_n, dr_s, dr_0, tk_s, tk_0, e_bxI, e_fac, e_facA, e_ldcA, e_ldcL, e_ldcF, okE_agg, ck_I, ck_B, ck_ints, ck_lists, ck_arr, ck_ptr, ck_cptr, ck_fn, all_c, all_n, stV_agg, stV_lists, stV_arr, stV_ptr, stV_cptr, stV_fn, nodL_ints, nodL_lists, nodL_ptr, nodL_cptr, nodL_fn, nodL_arr0, cl_arr, cl_ptr, cl_cptr, cl_fn, cl_lists, okE_arr, okE_fn, okE_ptr, okE_cptr, e_bd0, e_bd1, e_wr, Nat.reduceAdd, Nat.reduceLeDiff, Nat.reduceEqDiff, Nat.add_zero, Bool.and_self, Bool.true_and, Bool.and_true, e_lc0, e_lA0, e_lM0, e_sc0, e_rc0, e_rA0, e_lI0, e_sI0, e_cI0, e_lc1, e_lA1, e_lM1, e_sc1, e_rc1, e_rA1, e_lI1, e_sI1, e_cI1, e_lc2, e_lA2, e_lM2, e_sc2, e_rc2, e_rA2, e_lI2, e_sI2, e_cI2, e_lc3, e_lA3, e_lM3, e_sc3, e_rc3, e_rA3, e_lI3, e_sI3, e_cI3, e_lc4, e_lA4, e_lM4, e_sc4, e_rc4, e_rA4, e_lI4, e_sI4, e_cI4, e_lc5, e_lA5, e_lM5, e_sc5, e_rc5, e_rA5, e_lI5, e_sI5, e_cI5, own0_arr, own0_ints, own0_lists, own0_imm, own0_ptr, own0_cptr, own0_fn, own0_agg, e_appB, e_appB0, ck_sl, own0_sl, stV_sl, nodL_sl, cl_sl, okE_sl, e_mkM, e_mkI, e_mkIm, e_callB, nod_bfn, nod_ifc, nod_map, nodL_ifc, nodL_bfn, nodL_map, cl_ifc, cl_bfn, ck_ifc, ck_bfn, ck_map, stV_ifc, okE_ifc, okE_bfn, nod_arr, nodL_arr, e_addU, e_mulU, e_shrK, e_shlK, e_andK, e_cv64, e_cv32, e_callEG, e_callEY, e_callEB, e_zr, e_nilSl, e_ncP, e_ncC, e_npnP, e_npeP, e_npnC, e_npeC, e_npnN, e_npeN, e_ixAP, e_ldcP, e_ldcS, e_ldcV, e_ldcT, okE_nilP, ck_nilP, okE_nilI, ck_nilI, okE_str, ck_str, e_tlen, e_tix, e_teq, e_tne, e_tadd, e_tb, e_u8lss, e_u8gtr, noV_full, nod_arr, List.length_map, reduceIte, Int.reduceEq, Int.reduceNeg, ne_eq, not_true_eq_false, not_false_eq_true, Bool.not_true, Bool.not_false, Bool.true_or, Bool.or_true, Bool.false_or, Bool.or_false, Bool.and_true, Bool.and_false, Bool.false_and, Bool.not_not, Bool.or_self, List.length_nil, Int.ofNat_zero, Int.cast_ofNat_Int, Int.natCast_zero, beq_self_eq_true, Bool.true_eq_false]; subst hK hQ) | refine Jr.go ?_) | refine sd ?_)
   exact end1 (fzI _)
  ·simp only [Bool.or_eq_false_iff, decide_eq_false_iff_not] at hq
   obtain ⟨⟨⟨⟨q1, q2⟩, q3⟩, q4⟩, q5⟩ := hq
   obtain ⟨M, rfl⟩ : ∃ M : Nat, m = (M : Int) := ⟨m.toNat, by omega⟩
   repeat (first | (with_reducible first | refine Ju.go ?_ | (refine Hd.go ?_; intro K Q hK hQ; simp only [nod_imm, e_not, Bool.not_true, List.getD_cons_succ, List.getD_cons_zero, e_cond, Bool.false_eq_true, if_false, nod_ints, nd_no]; subst hK hQ) | refine Jr.go ?_) | refine sd ?_)
   refine app_ints (b := 0) (n := 0) (xs := []) rfl (fun h => absurd rfl h) (by omega) fun G0 f1 f2 f3 => ?_
   rw [Nat.zero_add] at f2 ⊢
   have hx0 : (G0 ++ [Blk.cells [I 0, I 0, V.arr [] .full, V.arr [] .full, V.arr [] .full, I 0]])[G0.length]? = some (.cells [I 0, I 0, V.arr [] .full, V.arr [] .full, V.arr [] .full, I 0]) := tail0 _ _
   repeat (first | (with_reducible first | refine Ju.go ?_ | (refine Hd.go ?_; intro K Q hK hQ; simp only [blV_nod, e_bd1, okE_I, Nat.zero_add, lv_cons, List.length_nil, Nat.reduceAdd, Nat.reduceLeDiff, cl_imm, spl_0, spl_n, spl_s, blV_ok, blV_cl, e_bd0, true_and, e_bx, okE_agg, all_c, ck_I, ck_arr, all_n, Bool.and_self, and_true, cl_agg, nod_ptr, st_at hx0, stV_agg, List.map_cons, nodL_imm, blV_nodL, nodL_arr, nd_full, List.map_nil, blV_ck]; subst hK hQ) | refine Jr.go ?_) | refine sd ?_)
   have hx1 := List.getElem?_set_self (l := (G0 ++ [Blk.cells [I 0, I 0, V.arr [] .full, V.arr [] .full, V.arr [] .full, I 0]])) (i := G0.length) (a := Blk.cells [I 1, I 1, blV 1 H.length lead.length, .arr [] .full, .arr [] .full, I 0]) (by simp)
   have I0 : Pb H lead pd G0.length 0 H.length 0 [] ((G0 ++ [Blk.cells [I 0, I 0, V.arr [] .full, V.arr [] .full, V.arr [] .full, I 0]]).set G0.length (.cells [I 1, I 1, blV 1 H.length lead.length, .arr [] .full, .arr [] .full, I 0])) := by
    have hne : lead.length + 0 * pd.length ≠ 0 → H.length < G0.length := fun e => by
     have := f2 (by omega)
     exact get_lt this
    refine ⟨?_, fun e => ?_, fun e => absurd rfl e, f3, fun c hc => ?_⟩
    ·rw [hx1, Nat.zero_mul, Nat.add_zero]; rfl
    ·have h1 := hne e
     refine ⟨?_, by omega, Nat.le_refl _⟩
     rw [get_ne (by omega), List.getElem?_append_left h1, f2 (by omega)]
     unfold mkSm
     simp
    ·rw [get_ne (by omega), List.getElem?_append_left (by omega)]
     exact f1 c hc (fun e => absurd rfl e)
   clear hx1 hx0
   generalize G0.length = bx at *
   refine loop_of (fun q : Nat × Nat × Nat × Hp => q.1 ≤ M ∧ Pb H lead pd bx q.1 q.2.1 q.2.2.1 [] q.2.2.2) (fun q => [ints lead .no, ints pd .no, I M, I at', .cptr (pcV k), .ptr bx 0, I q.1]) (·.2.2.2) (fun q => M - q.1) (0, H.length, 0, _) ⟨Nat.zero_le _, I0⟩ rfl rfl ?_
   clear I0
   rintro ⟨i, bS, bP, G⟩ ⟨hi, hB⟩
   simp only at hi hB ⊢
   repeat (first | (with_reducible first | refine Ju.go ?_ | (refine Hd.go ?_; intro K Q hK hQ; simp only [List.getD_cons_succ, List.getD_cons_zero, nod_imm, Try.underlying3, e_lss, e_cond, decide_eq_true_eq]; subst hK hQ) | refine Jr.go ?_) | refine sd ?_)
   by_cases hlt : i < M
   ·have d : (i : Int) < M := by omega
    have hx : G[bx]? = some (.cells [I 1, I 1, blV 1 bS (lead.length + i * pd.length), blV 1 bP i, .arr [] .full, I 0]) := hB.x
    have hself : G.set bx (.cells [I 1, I 1, blV 1 bS (lead.length + i * pd.length), blV 1 bP i, .arr [] .full, I 0]) = G := hB.self
    have hip : i * pd.length ≤ 12 * 10 := Nat.mul_le_mul (by omega) (by omega)
    have hxl := get_lt hx
    have hbx := hB.bx
    repeat (first | (with_reducible first | refine Ju.go ?_ | (refine Hd.go ?_; intro K Q hK hQ; simp only [d, if_true, List.getD_cons_succ, List.getD_cons_zero, nod_ptr, e_fa, Nat.zero_add, ldM_at hx, Nat.reduceAdd, lv_cons, List.length_nil, Nat.reduceLeDiff, blV_nodL, vs_s, vs_0, hself, true_and, ld_at hx, blV_nod, blV_len, nod_imm, bs1, nod_ints, nd_full]; subst hK hQ) | refine Jr.go ?_) | refine sd ?_)
    refine app_ints (xs := mkPe lead pd i) (ys := [((lead.length + i * pd.length : Nat) : Int)]) (mkPe_len _ _ _) (fun e => (hB.p e).1) (by show i + 1 ≤ _; omega) fun G1 g1 g2 g3 => ?_
    simp only [List.length_singleton] at g2 ⊢
    have hx1 : G1[bx]? = some (.cells [I 1, I 1, blV 1 bS (lead.length + i * pd.length), blV 1 bP i, .arr [] .full, I 0]) := by rw [g1 bx hxl (fun e => (hB.p e).2.1)]; exact hx
    have hx2 : (G1.set bx (.cells [I 1, I 1, blV 1 bS (lead.length + i * pd.length), blV 1 G.length (i + 1), .arr [] .full, I 0]))[bx]? = some (.cells [I 1, I 1, blV 1 bS (lead.length + i * pd.length), blV 1 G.length (i + 1), .arr [] .full, I 0]) := List.getElem?_set_self (get_lt hx1)
    repeat (first | (with_reducible first | refine Ju.go ?_ | (refine Hd.go ?_; intro K Q hK hQ; simp only [List.getD_cons_succ, List.getD_cons_zero, nod_ptr, e_fa, Nat.zero_add, st_at hx1, Nat.reduceAdd, lv_cons, List.length_nil, Nat.reduceLeDiff, blV_st, blV_ok, blV_cl, spl_s, spl_0, spl_n, true_and]; subst hK hQ) | refine Jr.go ?_) | refine sd ?_)
    have hset : (G1.set bx (.cells [I 1, I 1, blV 1 bS (lead.length + i * pd.length), blV 1 G.length (i + 1), .arr [] .full, I 0])).set bx (.cells [I 1, I 1, blV 1 bS (lead.length + i * pd.length), blV 1 G.length (i + 1), .arr [] .full, I 0]) = G1.set bx (.cells [I 1, I 1, blV 1 bS (lead.length + i * pd.length), blV 1 G.length (i + 1), .arr [] .full, I 0]) := List.set_set ..
    repeat (first | (with_reducible first | refine Ju.go ?_ | (refine Hd.go ?_; intro K Q hK hQ; simp only [ldM_at hx2, Nat.reduceAdd, lv_cons, List.length_nil, Nat.zero_add, Nat.reduceLeDiff, List.getD_cons_succ, List.getD_cons_zero, blV_nodL, vs_s, vs_0, hset, true_and, nod_ints, nd_no]; subst hK hQ) | refine Jr.go ?_) | refine sd ?_)
    have low : ∀ c, c < H.length → G1[c]? = H[c]? := fun c hc => by rw [g1 c (by omega) (fun e => by have := (hB.p e).2.2.1; omega)]; exact hB.fr c hc
    have hS1 : lead.length + i * pd.length ≠ 0 → (G1.set bx (.cells [I 1, I 1, blV 1 bS (lead.length + i * pd.length), blV 1 G.length (i + 1), .arr [] .full, I 0]))[bS]? = some (.cells ((mkSm lead pd i).map I)) := fun e => by
     obtain ⟨s1, s2, s3⟩ := hB.s e
     rw [get_ne s2.symm, g1 bS (get_lt s1) (fun e => (hB.p e).2.2.2)]
     exact s1
    have g2' := g2 (by omega)
    refine app_ints (xs := mkSm lead pd i) (ys := pd) (mkSm_len _ _ _) hS1 (by omega) fun G2 k1 k2 k3 => ?_
    rw [List.length_set] at k1 k2 k3 ⊢
    have hx3 : G2[bx]? = some (.cells [I 1, I 1, blV 1 bS (lead.length + i * pd.length), blV 1 G.length (i + 1), .arr [] .full, I 0]) := by rw [k1 bx (by omega) (fun e => (hB.s e).2.1)]; exact hx2
    repeat (first | (with_reducible first | refine Ju.go ?_ | (refine Hd.go ?_; intro K Q hK hQ; simp only [List.getD_cons_succ, List.getD_cons_zero, nod_ptr, e_fa, Nat.zero_add, st_at hx3, Nat.reduceAdd, lv_cons, List.length_nil, Nat.reduceLeDiff, blV_st, blV_ok, blV_cl, spl_s, spl_0, spl_n, true_and, nod_imm, Try.underlying3, e_add]; subst hK hQ) | refine Jr.go ?_) | refine sd ?_)
    have en : lead.length + i * pd.length + pd.length = lead.length + (i + 1) * pd.length := by rw [Nat.add_mul, Nat.one_mul]; omega
    have eP : mkPe lead pd i ++ [((lead.length + i * pd.length : Nat) : Int)] = mkPe lead pd (i + 1) := by unfold mkPe; rw [List.range_succ, List.map_append]; rfl
    have eS : mkSm lead pd i ++ pd = mkSm lead pd (i + 1) := by unfold mkSm; rw [rep_add, List.append_assoc]; simp
    rw [eP] at g2'
    rw [eS] at k2
    rw [en] at k2 ⊢
    have hG1 := get_lt g2'
    have B2 : Pb H lead pd bx (i + 1) G1.length G.length [] (G2.set bx (.cells [I 1, I 1, blV 1 G1.length (lead.length + (i + 1) * pd.length), blV 1 G.length (i + 1), .arr [] .full, I 0])) := by
     refine ⟨List.getElem?_set_self (get_lt hx3), fun e => ?_, fun e => ?_, hbx, fun c hc => ?_⟩
     ·refine ⟨?_, by omega, by omega⟩
      rw [get_ne (by omega)]; exact k2 e
     ·refine ⟨?_, by omega, by omega, by omega⟩
      rw [get_ne (by omega), k1 G.length hG1 (fun e => by have := get_lt (hB.s e).1; omega), get_ne (by omega)]
      exact g2'
     ·rw [get_ne (by omega), k1 c (by omega) (fun e => by have := (hB.s e).2.2; omega), get_ne (by omega)]
      exact low c hc
    exact ⟨(i + 1, _, _, _), ⟨by show i + 1 ≤ M; omega, B2⟩, rfl, rfl, by show M - (i + 1) < M - i; omega⟩
   ·obtain rfl : i = M := by omega
    have d : ¬ (i : Int) < i := by omega
    have hx : G[bx]? = some (.cells [I 1, I 1, blV 1 bS (lead.length + i * pd.length), blV 1 bP i, .arr [] .full, I 0]) := hB.x
    repeat (first | (with_reducible first | refine Ju.go ?_ | (refine Hd.go ?_; intro K Q hK hQ; simp only [d, if_false, List.getD_cons_succ, List.getD_cons_zero, nod_imm, Try.underlying3, e_geq, nod_ptr, e_fa, Nat.zero_add, e_gT]; subst hK hQ) | refine Jr.go ?_) | refine sd ?_)
    generalize hR : Rn _ = R
    have key : R [ints lead .no, ints pd .no, I i, I at', .cptr (pcV k), .ptr bx 0, B (decide (0 ≤ at') && decide (at' ≤ ((lead.length + i * pd.length : Nat) : Int)))] G := by
     subst hR
     generalize hsb : (decide (0 ≤ at') && decide (at' ≤ ((lead.length + i * pd.length : Nat) : Int))) = sb
     repeat (first | (with_reducible first | refine Ju.go ?_ | (refine Hd.go ?_; intro K Q hK hQ; simp only [List.getD_cons_succ, List.getD_cons_zero, nod_imm, e_cond]; subst hK hQ) | refine Jr.go ?_) | refine sd ?_)
     generalize hR2 : Rn _ = R2
     have key2 : ∀ G2, Pb H lead pd bx i bS bP (mkSg lead pd i at') G2 → R2 [ints lead .no, ints pd .no, I i, .cptr (pcV k), .ptr bx 0] G2 := by
      subst hR2
      clear hB hx
      intro G2 hB
      have hx := hB.x
      have hip : i * pd.length ≤ 12 * 10 := Nat.mul_le_mul (by omega) (by omega)
      have sm : Sm (mkP lead pd i at') := mkP_sm (by omega) (by omega) (by omega)
      repeat (first | (with_reducible first | refine Ju.go ?_ | (refine Hd.go ?_; intro K Q hK hQ; simp only [List.getD_cons_succ, List.getD_cons_zero, nod_ptr, ldA_at hx, Nat.zero_add, lv_cons, List.length_nil, Nat.reduceAdd, Nat.reduceLeDiff, dr_0, tk_s, tk_0, nod_agg, List.map_cons, nodL_imm, blV_nodL, nodL_arr, nd_full, List.map_nil, true_and]; subst hK hQ) | refine Jr.go ?_) | refine sd ?_)
      refine callE_of (hB.to17 sm (by omega)) ?_
      rintro v G3 ⟨rfl, hx3, hlo, hln⟩
      cases ho : okSp (mkP lead pd i at')
      ·repeat (first | (with_reducible first | refine Ju.go ?_ | (refine Hd.go ?_; intro K Q hK hQ; simp only [nod_imm, e_not, Bool.not_false, e_cond, if_true]; subst hK hQ) | refine Jr.go ?_) | refine sd ?_)
       refine call_of (c15x _) ?_
       repeat (first | (with_reducible first | refine Ju.go ?_ | (refine Hd.go ?_; intro K Q hK hQ; simp only [Try.underlying3, Try.underlying4, Try.underlying5, Try.underlying9, Try.underlying22, Try.underlying23, Try.underlying30, Try.underlying43, Try.underlying44, Try.underlying57, Try.underlying100, Try.underlying124, Try.underlying184, j_one, j_side, j_tl, j_fl, nod_nod, nod_imm, nod_ints, nd_no, nd_own, nd_full, nd_fO, oF_ap, oF_succ, nod_sl, nod_ptr, nod_cptr, nod_fn, nod_junk, nodL_imm, nod_agg, nod_tup, nod2_imm, nod2_agg, cl_imm, cl_ints, cl_agg, e_add, e_sub, e_mul, e_quo, e_rem, e_eql, e_neq, e_lss, e_leq, e_gtr, e_geq, e_beq, e_bne, e_neg, e_not, e_pick, e_cond, e_gT, e_gF, e_len, e_lenA, e_lenS, e_ix, e_ixS, e_ldc, e_ldci, e_fa, rep_cl, rep_I, e_bx, okE_I, okE_B, okE_E8, okE_ints, stV_imm, stV_ints, j_and', j_or', List.getD_cons_zero, List.getD_cons_succ, List.map_cons, List.map_nil, decide_eq_true_eq, Int.toNat_natCast, Nat.mul_one, Nat.zero_add, true_and, and_true, List.length_map, Bool.not_eq_true', decide_eq_false_iff_not, nod_lists, e_lenL, e_ixL, okE_lists, bs1, bs1L, bs2L, e_app, e_appL, e_app0, e_app0L, e_slcLo, e_slcHi, e_slcLH, e_slcHH, e_slcLHH, e_callG, e_callY, e_calmG, e_slS0, e_slSLo, e_slSHi, e_slSLH, e_slSHH, e_slSLHH, e_max2, e_min2, e_max3, e_x20, e_x21, e_x30, e_x31, e_x32, nod2_ints, nod2_lists, rep_fl, bs0, e_nilE, if_true, if_false, cond_true, cond_false, decide_true, decide_false, eq_self, Bool.false_eq_true, false_implies, true_implies, ap_own, ap_full, e_slcLoL, e_slcHiL, e_slcLHL, hp_assoc, hp_cons, hp_nil, hp_len, hp_len_cons, hp_len_nil, lv_cons, lv_nil, vs_0, vs_s, spl_s, spl_0, spl_n, dr_s, dr_0, tk_s, tk_0, e_bxI, e_fac, e_facA, e_ldcA, e_ldcL, e_ldcF, okE_agg, ck_I, ck_B, ck_ints, ck_lists, ck_arr, ck_ptr, ck_cptr, ck_fn, all_c, all_n, stV_agg, stV_lists, stV_arr, stV_ptr, stV_cptr, stV_fn, nodL_ints, nodL_lists, nodL_ptr, nodL_cptr, nodL_fn, nodL_arr0, cl_arr, cl_ptr, cl_cptr, cl_fn, cl_lists, okE_arr, okE_fn, okE_ptr, okE_cptr, e_bd0, e_bd1, e_wr, Nat.reduceAdd, Nat.reduceLeDiff, Nat.reduceEqDiff, Nat.add_zero, Bool.and_self, Bool.true_and, Bool.and_true, e_lc0, e_lA0, e_lM0, e_sc0, e_rc0, e_rA0, e_lI0, e_sI0, e_cI0, e_lc1, e_lA1, e_lM1, e_sc1, e_rc1, e_rA1, e_lI1, e_sI1, e_cI1, e_lc2, e_lA2, e_lM2, e_sc2, e_rc2, e_rA2, e_lI2, e_sI2, e_cI2, e_lc3, e_lA3, e_lM3, e_sc3, e_rc3, e_rA3, e_lI3, e_sI3, e_cI3, e_lc4, e_lA4, e_lM4, e_sc4, e_rc4, e_rA4, e_lI4, e_sI4, e_cI4, e_lc5, e_lA5, e_lM5, e_sc5, e_rc5, e_rA5, e_lI5, e_sI5, e_cI5, own0_arr, own0_ints, own0_lists, own0_imm, own0_ptr, own0_cptr, own0_fn, own0_agg, e_appB, e_appB0, ck_sl, own0_sl, stV_sl, nodL_sl, cl_sl, okE_sl, e_mkM, e_mkI, e_mkIm, e_callB, nod_bfn, nod_ifc, nod_map, nodL_ifc, nodL_bfn, nodL_map, cl_ifc, cl_bfn, ck_ifc, ck_bfn, ck_map, stV_ifc, okE_ifc, okE_bfn, nod_arr, nodL_arr, e_addU, e_mulU, e_shrK, e_shlK, e_andK, e_cv64, e_cv32, e_callEG, e_callEY, e_callEB, e_zr, e_nilSl, e_ncP, e_ncC, e_npnP, e_npeP, e_npnC, e_npeC, e_npnN, e_npeN, e_ixAP, e_ldcP, e_ldcS, e_ldcV, e_ldcT, okE_nilP, ck_nilP, okE_nilI, ck_nilI, okE_str, ck_str, e_tlen, e_tix, e_teq, e_tne, e_tadd, e_tb, e_u8lss, e_u8gtr, noV_full, nod_arr, List.length_map, reduceIte, Int.reduceEq, Int.reduceNeg, ne_eq, not_true_eq_false, not_false_eq_true, Bool.not_true, Bool.not_false, Bool.true_or, Bool.or_true, Bool.false_or, Bool.or_false, Bool.and_true, Bool.and_false, Bool.false_and, Bool.not_not, Bool.or_self, List.length_nil, Int.ofNat_zero, Int.cast_ofNat_Int, Int.natCast_zero, beq_self_eq_true, Bool.true_eq_false]; subst hK hQ) | refine Jr.go ?_) | refine sd ?_)
       exact end1T (fzI _) (take_low hlo hln)
      ·repeat (first | (with_reducible first | refine Ju.go ?_ | (refine Hd.go ?_; intro K Q hK hQ; simp only [nod_imm, e_not, Bool.not_true, e_cond, Bool.false_eq_true, if_false, List.getD_cons_succ, List.getD_cons_zero, nod_ptr, ldA_at hx3, Nat.zero_add, lv_cons, List.length_nil, Nat.reduceAdd, Nat.reduceLeDiff, dr_0, tk_s, tk_0, nod_agg, List.map_cons, nodL_imm, nodL_ints, nd_no, nodL_arr, List.map_nil, true_and, nod_cptr, e_ldcA]; subst hK hQ) | refine Jr.go ?_) | refine sd ?_)
       refine call_of (c16 (mkP lead pd i at') k _ sm) ?_
       rw [if_pos (show (okSp (mkP lead pd i at') && okPc k) = true by rw [ho, hk]; rfl)]
       have hko := hk
       unfold okPc at hko
       simp only [Bool.and_eq_true, inB_iff] at hko
       obtain ⟨⟨kn1, kn2⟩, kd1, kd2⟩ := hko
       have hps := mk_pac lead pd (at' := at') k ho
       have hpd : pdS (mkP lead pd i at') k = ⟨1, 1, pacS (mkP lead pd i at') k, [], pacG (mkP lead pd i at') k, 0⟩ := rfl
       have hNle : i * k.d.toNat / k.n.toNat ≤ 96 := Nat.le_trans (Nat.div_le_self _ _) (Nat.mul_le_mul (by omega) (by omega) : i * k.d.toNat ≤ 12 * 8)
       have hN : ((i : Int) * k.d).tdiv k.n = ((i * k.d.toNat / k.n.toNat : Nat) : Int) := by
        obtain ⟨b, hb⟩ : ∃ b : Nat, k.d = b := ⟨k.d.toNat, by omega⟩
        obtain ⟨a, ha⟩ : ∃ a : Nat, k.n = a := ⟨k.n.toNat, by omega⟩
        rw [hb, ha, Int.toNat_natCast, Int.toNat_natCast, ← Int.natCast_mul, Int.tdiv_eq_ediv_of_nonneg (Int.natCast_nonneg _), ← Int.natCast_ediv]
       have hm0 : 0 ≤ (i : Int) * k.d := Int.mul_nonneg (by omega) (by omega)
       have hm1 : (i : Int) * k.d ≤ 12 * 8 := Int.mul_le_mul (by omega) (by omega) (by omega) (by omega)
       have hsl : (pacS (mkP lead pd i at') k).length = lead.length + i * k.d.toNat / k.n.toNat * pd.length := by rw [hps, mkSm_len]
       generalize i * k.d.toNat / k.n.toNat = N at *
       have hNp : N * pd.length ≤ 96 * 10 := Nat.mul_le_mul hNle (by omega)
       have hsl2 : ((pacS (mkP lead pd i at') k).length : Int) = (lead.length : Int) + (N : Int) * (pd.length : Int) := by rw [hsl]; simp
       have hgl : (pacG (mkP lead pd i at') k).length = (mkSg lead pd i at').length := by rw [pacG_eq k ho, List.length_map]; rfl
       have hgl2 : ((pacG (mkP lead pd i at') k).length : Int) = ((mkSg lead pd i at').length : Int) := by rw [hgl]
       have r3 : R64 ((N : Int) * (pd.length : Int)) := by unfold R64; rw [← Int.natCast_mul]; omega
       have r4 : R64 ((lead.length : Int) + (N : Int) * (pd.length : Int)) := by unfold R64; rw [← Int.natCast_mul]; omega
       have r5 : R64 (N : Int) := by unfold R64; omega
       have r1 : R64 ((i : Int) * k.d) := by unfold R64; omega
       have r2 : R64 (((i : Int) * k.d).tdiv k.n) := by rw [hN]; unfold R64; omega
       have kn0 : k.n ≠ 0 := by omega
       rw [hpd]
       repeat (first | (with_reducible first | refine Ju.go ?_ | (refine Hd.go ?_; intro K Q hK hQ; simp only [nod_tup, List.map_cons, nod2_agg, nodL_imm, nodL_ints, nd_no, nodL_arr, List.map_nil, nod2_imm, e_x20, e_x21, nod_agg, e_bxI, okE_agg, lv_cons, List.length_nil, Nat.zero_add, Nat.reduceAdd, all_c, ck_I, ck_ints, ck_arr, all_n, Bool.and_self, and_true, true_and, List.getD_cons_zero, List.getD_cons_succ, nod_cptr, e_fac, Nat.reduceLeDiff, e_ldc, nod_imm, Try.underlying3, e_mul, r1, e_quo, ne_eq, kn0, not_false_eq_true, hN, r5, Try.underlying30, e_neq, decide_true, Bool.not_true, nod_ints, e_len, r3, e_add, r4, e_ldci, hsl2, e_gF, cond_false, j_one, nod_ptr, e_fa, e_ldcV, nod_arr, ld_at hx3, e_lenA, List.length_map, hgl2, Int.cast_ofNat_Int, e_cond, Bool.false_eq_true, if_false]; subst hK hQ) | refine Jr.go ?_) | refine sd ?_)
       refine loop_of (fun j : Nat => j ≤ (pacS (mkP lead pd i at') k).length) (fun j => [ints lead .no, ints pd .no, .cptr (pcV k), .ptr bx 0, .cptr (.agg [I 1, I 1, ints (pacS (mkP lead pd i at') k) .no, .arr [] .no, .arr ((pacG (mkP lead pd i at') k).map sgV) .no, I 0]), I j]) (fun _ => G3) (fun j => (pacS (mkP lead pd i at') k).length - j) 0 (Nat.zero_le _) rfl rfl ?_
       intro j hj
       repeat (first | (with_reducible first | refine Ju.go ?_ | (refine Hd.go ?_; intro K Q hK hQ; simp only [List.getD_cons_succ, List.getD_cons_zero, nod_cptr, e_fac, Nat.reduceAdd, lv_cons, List.length_nil, Nat.zero_add, Nat.reduceLeDiff, true_and, e_ldci, nod_ints, nd_no, e_len, nod_imm, Try.underlying3, e_lss, e_cond, decide_eq_true_eq]; subst hK hQ) | refine Jr.go ?_) | refine sd ?_)
       by_cases hjl : j < (pacS (mkP lead pd i at') k).length
       ·have dj : (j : Int) < (pacS (mkP lead pd i at') k).length := by omega
        have hv : (pacS (mkP lead pd i at') k).getD j 0 = if j < lead.length then lead.getD j 0 else pd.getD ((j - lead.length) % pd.length) 0 := by
         rw [hps]
         exact mk_get (by omega) (by rw [hps] at hjl; exact hjl)
        by_cases hll : j < lead.length
        ·rw [if_pos hll] at hv
         have dl : (j : Int) < lead.length := by omega
         repeat (first | (with_reducible first | refine Ju.go ?_ | (refine Hd.go ?_; intro K Q hK hQ; simp only [dj, if_true, List.getD_cons_zero, nod_ints, nd_no, e_len, List.getD_cons_succ, nod_imm, Try.underlying3, e_lss, dl, decide_true, e_cond, e_ix, Int.toNat_natCast, true_and, nod_cptr, e_ldc, e_fac, Nat.reduceAdd, lv_cons, List.length_nil, Nat.zero_add, Nat.reduceLeDiff, e_ldci, hv, e_neq, Bool.not_true, Bool.false_eq_true, if_false, e_add]; subst hK hQ) | refine Jr.go ?_) | refine sd ?_)
         exact ⟨j + 1, by omega, rfl, rfl, by omega⟩
        ·rw [if_neg hll] at hv
         have dl : ¬ (j : Int) < lead.length := by omega
         have hr : ((j : Int) - lead.length).tmod pd.length = (((j - lead.length) % pd.length : Nat) : Int) := by
          rw [show (j : Int) - lead.length = ((j - lead.length : Nat) : Int) from by omega, Int.ofNat_tmod]
         have hb : (j - lead.length) % pd.length < pd.length := Nat.mod_lt _ (by omega)
         have rr : R64 ((j : Int) - lead.length) := by unfold R64; omega
         have p0 : (pd.length : Int) ≠ 0 := by omega
         have rr2 : R64 ((((j - lead.length) % pd.length : Nat)) : Int) := by unfold R64; omega
         have hb2 : ((((j - lead.length) % pd.length : Nat)) : Int) < pd.length := by omega
         generalize (j - lead.length) % pd.length = r at *
         repeat (first | (with_reducible first | refine Ju.go ?_ | (refine Hd.go ?_; intro K Q hK hQ; simp only [dj, if_true, List.getD_cons_zero, nod_ints, nd_no, e_len, List.getD_cons_succ, nod_imm, Try.underlying3, e_lss, dl, decide_false, e_cond, Bool.false_eq_true, if_false, e_sub, rr, true_and, e_rem, ne_eq, p0, not_false_eq_true, hr, e_ix, hb2, Int.toNat_natCast, nod_cptr, e_ldc, e_fac, Nat.reduceAdd, lv_cons, List.length_nil, Nat.zero_add, Nat.reduceLeDiff, e_ldci, hv, e_neq, decide_true, Bool.not_true, e_add]; subst hK hQ) | refine Jr.go ?_) | refine sd ?_)
         exact ⟨j + 1, by omega, rfl, rfl, by omega⟩
       ·have dj : ¬ (j : Int) < (pacS (mkP lead pd i at') k).length := by omega
        repeat (first | (with_reducible first | refine Ju.go ?_ | (refine Hd.go ?_; intro K Q hK hQ; simp only [dj, if_false, List.getD_cons_succ, List.getD_cons_zero]; subst hK hQ) | refine Jr.go ?_) | refine sd ?_)
        clear dj hjl hj
        have hget : ∀ j, j < (mkSg lead pd i at').length → (pacG (mkP lead pd i at') k).getD j default = atS (mkP lead pd i at') k ((mkSg lead pd i at').getD j default) := fun j hj => by
         rw [pacG_eq k ho, List.getD_eq_getElem?_getD, List.getElem?_map, List.getD_eq_getElem?_getD]
         show ((mkSg lead pd i at')[j]?.map _).getD _ = _
         rw [List.getElem?_eq_getElem hj]; rfl
        refine loop_of (fun j : Nat => j ≤ (mkSg lead pd i at').length) (fun j => [.cptr (pcV k), .ptr bx 0, .cptr (.agg [I 1, I 1, ints (pacS (mkP lead pd i at') k) .no, .arr [] .no, .arr ((pacG (mkP lead pd i at') k).map sgV) .no, I 0]), I j]) (fun _ => G3) (fun j => (mkSg lead pd i at').length - j) 0 (Nat.zero_le _) rfl rfl ?_
        have hn3 : (mkSg lead pd i at').length ≤ 3 := by unfold mkSg; split <;> simp
        intro j hj
        repeat (first | (with_reducible first | refine Ju.go ?_ | (refine Hd.go ?_; intro K Q hK hQ; simp only [List.getD_cons_succ, List.getD_cons_zero, nod_cptr, e_fac, Nat.reduceAdd, lv_cons, List.length_nil, Nat.zero_add, Nat.reduceLeDiff, true_and, e_ldcV, nod_arr, nd_no, e_lenA, List.length_map, hgl2, nod_imm, Try.underlying3, e_lss, e_cond, decide_eq_true_eq]; subst hK hQ) | refine Jr.go ?_) | refine sd ?_)
        by_cases hjl : j < (mkSg lead pd i at').length
        ·have dj : (j : Int) < (mkSg lead pd i at').length := by omega
         have hg := hget j hjl
         have hnm : ((pacG (mkP lead pd i at') k).getD j default).n = ((mkSg lead pd i at').getD j default).n := by rw [hg]; rfl
         have hat : ((pacG (mkP lead pd i at') k).getD j default).a = atN (mkP lead pd i at') k ((mkSg lead pd i at').getD j default).a := by rw [hg]; rfl
         have hrg := okSp.sg ho ((mkSg lead pd i at').getD j default) (getD_memA _ default hjl)
         have hone : k.n = k.d → ((pacG (mkP lead pd i at') k).getD j default).a = ((mkSg lead pd i at').getD j default).a := fun e => by
          rw [hat]; exact mk_atN hk e ho hrg.1 hrg.2
         by_cases hj0 : j = 0
         ·have j0 : ¬ (0 : Int) < j := by omega
          by_cases hkn : k.n = k.d
          ·have ha := hone hkn
           repeat (first | (with_reducible first | refine Ju.go ?_ | (refine Hd.go ?_; intro K Q hK hQ; simp only [dj, if_true, List.getD_cons_succ, List.getD_cons_zero, nod_cptr, e_fac, Nat.reduceAdd, lv_cons, List.length_nil, Nat.zero_add, Nat.reduceLeDiff, true_and, e_ldcV, nod_arr, nd_no, nod_imm, ix_sg, hgl2, Int.toNat_natCast, ha, hnm, e_ldc, nod_ptr, e_fa, ld_at hx3, Try.underlying9, e_tne, decide_true, Bool.not_true, Try.underlying3, nod_nod, e_sub, e_lss, e_gtr, j0, decide_false, e_gT, cond_false, e_gF, j_one, hkn, e_neq, e_eql, cond_true, j_side, e_cond, Bool.false_eq_true, if_false, e_add]; subst hK hQ) | refine Jr.go ?_) | refine sd ?_)
           exact ⟨j + 1, by omega, rfl, rfl, by omega⟩
          ·repeat (first | (with_reducible first | refine Ju.go ?_ | (refine Hd.go ?_; intro K Q hK hQ; simp only [dj, if_true, List.getD_cons_succ, List.getD_cons_zero, nod_cptr, e_fac, Nat.reduceAdd, lv_cons, List.length_nil, Nat.zero_add, Nat.reduceLeDiff, true_and, e_ldcV, nod_arr, nd_no, nod_imm, ix_sg, hgl2, Int.toNat_natCast, hnm, e_ldc, nod_ptr, e_fa, ld_at hx3, Try.underlying9, e_tne, decide_true, Bool.not_true, Try.underlying3, nod_nod, e_sub, e_lss, e_gtr, j0, decide_false, e_gT, cond_false, e_gF, j_one, e_neq, e_eql, hkn, e_cond, Bool.false_eq_true, if_false, e_add]; subst hK hQ) | refine Jr.go ?_) | refine sd ?_)
           exact ⟨j + 1, by omega, rfl, rfl, by omega⟩
         ·have hm := atN_mono ho k (okSp.sg ho ((mkSg lead pd i at').getD (j - 1) default) (getD_memA (mkSg lead pd i at') default (by omega))).1 (sg_mono ho (i := j - 1) j (by omega) hjl)
          have hat1 : ((pacG (mkP lead pd i at') k).getD (j - 1) default).a = atN (mkP lead pd i at') k ((mkSg lead pd i at').getD (j - 1) default).a := by rw [hget (j - 1) (by omega)]; rfl
          have nl : ¬ ((pacG (mkP lead pd i at') k).getD j default).a < ((pacG (mkP lead pd i at') k).getD (j - 1) default).a := by rw [hat, hat1]; exact Int.not_lt.2 hm
          have e1 : ((j : Int) - 1).toNat = j - 1 := by omega
          have j0 : (0 : Int) < j := by omega
          have j1 : (j : Int) - 1 < (mkSg lead pd i at').length := by omega
          have j2 : 0 ≤ (j : Int) - 1 := by omega
          have rj : R64 ((j : Int) - 1) := by unfold R64; omega
          by_cases hkn : k.n = k.d
          ·have ha := hone hkn
           rw [ha] at nl
           repeat (first | (with_reducible first | refine Ju.go ?_ | (refine Hd.go ?_; intro K Q hK hQ; simp only [dj, if_true, List.getD_cons_succ, List.getD_cons_zero, nod_cptr, e_fac, Nat.reduceAdd, lv_cons, List.length_nil, Nat.zero_add, Nat.reduceLeDiff, true_and, e_ldcV, nod_arr, nd_no, nod_imm, ix_sg, hgl2, Int.toNat_natCast, ha, hnm, e_ldc, nod_ptr, e_fa, ld_at hx3, Try.underlying9, e_tne, decide_true, Bool.not_true, Try.underlying3, nod_nod, e_sub, rj, j2, j1, e1, e_lss, nl, decide_false, e_gtr, j0, e_gT, cond_true, e_gF, cond_false, j_side, j_one, hkn, e_neq, e_eql, e_cond, Bool.false_eq_true, if_false, e_add]; subst hK hQ) | refine Jr.go ?_) | refine sd ?_)
           exact ⟨j + 1, by omega, rfl, rfl, by omega⟩
          ·repeat (first | (with_reducible first | refine Ju.go ?_ | (refine Hd.go ?_; intro K Q hK hQ; simp only [dj, if_true, List.getD_cons_succ, List.getD_cons_zero, nod_cptr, e_fac, Nat.reduceAdd, lv_cons, List.length_nil, Nat.zero_add, Nat.reduceLeDiff, true_and, e_ldcV, nod_arr, nd_no, nod_imm, ix_sg, hgl2, Int.toNat_natCast, hnm, e_ldc, nod_ptr, e_fa, ld_at hx3, Try.underlying9, e_tne, decide_true, Bool.not_true, Try.underlying3, nod_nod, e_sub, rj, j2, j1, e1, e_lss, nl, decide_false, e_gtr, j0, e_gT, cond_true, e_gF, cond_false, j_side, j_one, e_neq, e_eql, hkn, e_cond, Bool.false_eq_true, if_false, e_add]; subst hK hQ) | refine Jr.go ?_) | refine sd ?_)
           exact ⟨j + 1, by omega, rfl, rfl, by omega⟩
        ·have dj : ¬ (j : Int) < (mkSg lead pd i at').length := by omega
         repeat (first | (with_reducible first | refine Ju.go ?_ | (refine Hd.go ?_; intro K Q hK hQ; simp only [dj, if_false, List.getD_cons_succ, List.getD_cons_zero, nod_cptr, e_fac, Nat.reduceAdd, lv_cons, List.length_nil, Nat.zero_add, Nat.reduceLeDiff, true_and, e_ldcV, nod_arr, nd_no, e_lenA, List.length_map, hgl2, nod_imm, Try.underlying3, e_eql, e_ldci, nod_ints, e_len, e_gF]; subst hK hQ) | refine Jr.go ?_) | refine sd ?_)
         have h3 : (mkSg lead pd i at').length = 0 ∨ (mkSg lead pd i at').length = 3 ∧ ((mkSg lead pd i at').getD 2 default).a = ((mkSm lead pd i).length : Int) := by
          unfold mkSg
          split
          ·exact .inr ⟨rfl, rfl⟩
          ·exact .inl rfl
         rcases h3 with h3 | ⟨h3, h4⟩
         ·have z : ((mkSg lead pd i at').length : Int) = 0 := by rw [h3]; rfl
          repeat (first | (with_reducible first | refine Ju.go ?_ | (refine Hd.go ?_; intro K Q hK hQ; simp only [z, decide_true, cond_true, nod_imm, e_gT]; subst hK hQ) | refine Jr.go ?_) | refine sd ?_)
          refine call_ofD (c15x _) ?_
          repeat (first | (with_reducible first | refine Ju.go ?_ | (refine Hd.go ?_; intro K Q hK hQ; simp only [nod_imm]; subst hK hQ) | refine Jr.go ?_) | refine sd ?_)
          exact end1T (fzI _) (take_low hlo hln)
         ·have z : ((mkSg lead pd i at').length : Int) = 3 := by rw [h3]; rfl
          have h5 : ((pacG (mkP lead pd i at') k).getD (Int.toNat 2) default).a = ((pacS (mkP lead pd i at') k).length : Int) := by
           show ((pacG (mkP lead pd i at') k).getD 2 default).a = _
           rw [hget 2 (by omega), pacS_eq k ho]
           show atN _ k ((mkSg lead pd i at').getD 2 default).a = _
           rw [h4]
           exact atN_end k (Int.le_refl _)
          repeat (first | (with_reducible first | refine Ju.go ?_ | (refine Hd.go ?_; intro K Q hK hQ; simp only [z, Int.reduceEq, decide_false, cond_false, ix_sg, hgl2, nod_cptr, e_fac, Nat.zero_add, h5, lv_cons, List.length_nil, Nat.reduceAdd, Nat.reduceLeDiff, List.getD_cons_zero, true_and, e_ldc, nod_imm, e_eql, decide_true, e_gT, cond_true]; subst hK hQ) | refine Jr.go ?_) | refine sd ?_)
          refine call_ofD (c15x _) ?_
          repeat (first | (with_reducible first | refine Ju.go ?_ | (refine Hd.go ?_; intro K Q hK hQ; simp only [nod_imm]; subst hK hQ) | refine Jr.go ?_) | refine sd ?_)
          exact end1T (fzI _) (take_low hlo hln)
     have em : mkSg lead pd i at' = if (decide (0 ≤ at') && decide (at' ≤ ((lead.length + i * pd.length : Nat) : Int))) = true then sg3 lead pd i at' else [] := by
      unfold mkSg sg3
      rw [mkSm_len]
      simp only [Bool.and_eq_true, decide_eq_true_eq]
     rw [hsb] at em
     cases sb
     ·rw [em] at key2
      repeat (first | (with_reducible first | refine Ju.go ?_ | (refine Hd.go ?_; intro K Q hK hQ; simp only [Bool.false_eq_true, if_false]; subst hK hQ) | refine Jr.go ?_) | refine sd ?_)
      exact key2 G hB
     ·rw [em] at key2
      have hsg := hB.sgs (sg3 lead pd i at')
      repeat (first | (with_reducible first | refine Ju.go ?_ | (refine Hd.go ?_; intro K Q hK hQ; simp only [if_true, List.getD_cons_succ, List.getD_cons_zero, nod_imm, e_bd1, okE_I, Nat.zero_add, lv_cons, List.length_nil, Nat.reduceAdd, Nat.reduceLeDiff, cl_imm, spl_0, spl_n, okE_str, spl_s, e_bd0, true_and, nod_ptr, e_fa, ld_at hx, blV_nod, blV_len, own0_imm, nod_agg, List.map_cons, nodL_imm, List.map_nil]; subst hK hQ) | refine Jr.go ?_) | refine sd ?_)
      refine Eq.mpr (bs_sg3 ⟨at', ByteArray.mk #[97]⟩ ⟨at', ByteArray.mk #[98]⟩ ⟨((lead.length + i * pd.length : Nat) : Int), ByteArray.mk #[99]⟩ _ _) ?_
      repeat (first | (with_reducible first | refine Ju.go ?_ | (refine Hd.go ?_; intro K Q hK hQ; simp only [List.getD_cons_succ, List.getD_cons_zero, nod_ptr, e_fa, Nat.zero_add, List.map_cons, List.map_nil, st_at hx, Nat.reduceAdd, lv_cons, List.length_nil, Nat.reduceLeDiff, stV_arr, okE_arr, cl_arr, spl_s, spl_0, spl_n, true_and]; subst hK hQ) | refine Jr.go ?_) | refine sd ?_)
      exact key2 _ hsg
    by_cases h0 : 0 ≤ at'
    ·have d0 : decide (0 ≤ at') = true := decide_eq_true h0
     repeat (first | (with_reducible first | refine Ju.go ?_ | (refine Hd.go ?_; intro K Q hK hQ; simp only [d0, cond_true, ld_at hx, Nat.reduceAdd, lv_cons, List.length_nil, Nat.zero_add, Nat.reduceLeDiff, List.getD_cons_succ, List.getD_cons_zero, blV_nod, true_and, blV_len, nod_imm, e_leq]; subst hK hQ) | refine Jr.go ?_) | refine sd ?_)
     rw [d0, Bool.true_and] at key
     exact key
    ·have d0 : decide (0 ≤ at') = false := decide_eq_false h0
     repeat (first | (with_reducible first | refine Ju.go ?_ | (refine Hd.go ?_; intro K Q hK hQ; simp only [d0, cond_false]; subst hK hQ) | refine Jr.go ?_) | refine sd ?_)
     rw [d0, Bool.false_and] at key
     exact key
open Go.ChangeShapes Go.WideShapes Go.ChangeAt Go.RowKit
theorem own : ownKnob Try.prog.godebug = none := by kernel_rfl
theorem laidOut : laidOutB Try.prog = true := by kernel_rfl
set_option maxRecDepth 100000 in
theorem lifted (os : Os) (started : os.Started) (H : Type) (enc : TypeId × Value → H) :
    ReturnsInHanded {} Try.checked os 4 .any (Rows.streamPeriodsSpec.pre6 enc Try.prog Try.f4 Rows.streamPeriodsRow.domain false) (Rows.streamPeriodsSpec.post enc Try.prog Try.f4 false true false false) := by
  refine returnsInHanded_of_change (C := Try.checked) own started (by kernel_rfl) Try.func4
    (ChangeSpec.witness6 (enc := enc) (C := Try.checked) false ⟨#[], #[.slice none 0 0, .slice none 0 0, .int .i64 0, .agg #[.int .i64 0, .int .i64 0], .int .i64 0], []⟩ 8 (by kernel_rfl) (by kernel_rfl) (by kernel_rfl) (by kernel_rfl)) ?_
  intro W base args ds gs before hval0 hW hcnd _
  have hval : ∀ (j : Nat) t v, Try.f4.params[j]? = some t → args[j]? = some v → Value.okWide Try.prog W .any base t v := hval0
  have hW' := hW
  obtain ⟨p, q, hA0, hV, rfl, hfz, hnd⟩ := hW
  have hA : DataW.TrodAll enc Try.prog W 0 (fun _ => true) true Try.f4.params.toList args.toList ds p := hA0
  rw [Try.params4] at hA hval
  obtain ⟨v0, vs0, d0, ds0, p0, q0, hargs, rfl, rfl, h0, r0⟩ := trodAll_cons hA
  obtain ⟨v1, vs1, d1, ds1, p1, q1, rfl, rfl, rfl, h1, r1⟩ := trodAll_cons r0
  obtain ⟨v2, vs2, d2, ds2, p2, q2, rfl, rfl, rfl, h2, r2⟩ := trodAll_cons r1
  obtain ⟨v3, vs3, d3, ds3, p3, q3, rfl, rfl, rfl, h3, r3⟩ := trodAll_cons r2
  obtain ⟨v4, vs4, d4, ds4, p4, q4, rfl, rfl, rfl, h4, r4⟩ := trodAll_cons r3
  obtain ⟨rfl, rfl, rfl⟩ := trodAll_nil r4
  obtain rfl : args = #[v0, v1, v2, v3, v4] := by cases args; simp_all
  obtain ⟨rfl, rfl⟩ := trodVars_none hV
  have lt0 : ∀ x ∈ p0, x.block < W.heap.size := by obtain ⟨m, hm⟩ := h0; exact DataW.trod_lt m _ _ _ hm
  obtain ⟨l0, w0, e0⟩ := in_is (hval 0 _ v0 rfl rfl) h0
  have lt1 : ∀ x ∈ p1, x.block < W.heap.size := by obtain ⟨m, hm⟩ := h1; exact DataW.trod_lt m _ _ _ hm
  obtain ⟨l1, w1, e1⟩ := in_is (hval 1 _ v1 rfl rfl) h1
  have lt2 : ∀ x ∈ p2, x.block < W.heap.size := by obtain ⟨m, hm⟩ := h2; exact DataW.trod_lt m _ _ _ hm
  obtain ⟨n2, e2, w2⟩ := in_int Try.underlying3 (hval 2 _ v2 rfl rfl) h2
  have lt3 : ∀ x ∈ p3, x.block < W.heap.size := by obtain ⟨m, hm⟩ := h3; exact DataW.trod_lt m _ _ _ hm
  obtain ⟨l3, e3⟩ := in_pc (hval 3 _ v3 rfl rfl) h3
  have lt4 : ∀ x ∈ p4, x.block < W.heap.size := by obtain ⟨m, hm⟩ := h4; exact DataW.trod_lt m _ _ _ hm
  obtain ⟨n4, e4, w4⟩ := in_int Try.underlying3 (hval 4 _ v4 rfl rfl) h4
  clear hA0 hval0
  refine (bridge (args := [ints l0 .no, ints l1 .no, I n2, pcV l3, I n4]) (ra := #[v0, v1, v2, v3, v4]) (c4 l0 l1 n2 l3 n4 [] w0 w1) rfl (by intro a ha; simp at ha; rcases ha with rfl | rfl | rfl | rfl | rfl <;> rfl) (fun i => ?_)).mono fun e W' ⟨he, bel⟩ => ?_
  · match i with
    | 0 => exact e0
    | 1 => exact e1
    | 2 => exact e2
    | 3 => exact e3
    | 4 => exact e4
    | i + 5 => exact .junk _
  · subst he
    exact ⟨_, rfl, _, _, _, [], _, [], hW', trodAll_mk1 (shut_bool Try.underlying4 _), (trodAll_cons_mk (Below.trod laidOut (by kernel_rfl) (of_decide_eq_true (by kernel_rfl)) h0 bel lt0) (trodAll_cons_mk (Below.trod laidOut (by kernel_rfl) (of_decide_eq_true (by kernel_rfl)) h1 bel lt1) (trodAll_cons_mk (Below.trod laidOut (by kernel_rfl) (of_decide_eq_true (by kernel_rfl)) h2 bel lt2) (trodAll_cons_mk (Below.trod laidOut (by kernel_rfl) (of_decide_eq_true (by kernel_rfl)) h3 bel lt3) (trodAll_cons_mk (Below.trod laidOut (by kernel_rfl) (of_decide_eq_true (by kernel_rfl)) h4 bel lt4) trodAll_mk0))))), rfl, bel.frame _, fun h => by cases h⟩
theorem over : Rows.streamPeriodsRow.holds Try.pinned (OpenSpec.ofChange Rows.streamPeriodsSpec) :=
 OpenClaim.holds_of_wide 4 Try.f4 rfl rfl rfl rfl rfl rfl rfl ⟨rfl, rfl, rfl, rfl, rfl⟩ rfl rfl rfl rfl rfl (by kernel_rfl) Try.func4 (by kernel_rfl)
  (of_decide_eq_true (by kernel_rfl)) (by unfold Func.isWrapper; first | (rw [if_pos (by decide +kernel)]; kernel_rfl) | (rw [if_neg (by decide +kernel)]; exact ⟨rfl, rfl⟩))
  (fun os started H enc _ => lifted os started H enc)
theorem streamPeriods_holds : Rows.StreamPeriodsSaid := over
#print axioms streamPeriods_holds
end Go.Proofs.Ytlnjhnemmemloaa
