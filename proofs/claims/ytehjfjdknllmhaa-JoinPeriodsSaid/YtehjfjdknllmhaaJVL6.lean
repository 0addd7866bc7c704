import Derived.Test.YtehjfjdknllmhaaAb23
import Derived.Test.YtehjfjdknllmhaaProg
import Derived.Test.YtehjfjdknllmhaaJV1
set_option linter.unusedVariables false
set_option maxRecDepth 20000
set_option maxHeartbeats 4000000
namespace Go.Proofs.Ytehjfjdknllmhaa
open Go Go.Ab Go.Proofs
/- declaim/declaimlaw07.JoinPeriods -/
def an6 : An := { imm := [3], jn := [(2, [1, 2, 3, 44]), (4, [1, 2, 3, 7, 8]), (6, [1, 2, 3, 7, 8, 9, 10, 11, 12]), (8, [3, 11, 13, 109]), (10, [3, 11, 13, 15, 16]), (11, [3, 11, 13, 181]), (15, [17, 18, 19, 20, 21]), (18, [17, 18, 19, 20, 21]), (22, [17, 19, 220]), (30, [17, 19, 22, 23, 257])], lp := [(15, [17, 18, 19, 20, 21]), (17, [17, 18, 19, 20, 21]), (24, [17, 19, 22]), (27, [17, 19, 22, 23])], loud := [136, 147, 163, 179, 187, 207], ord := [] }
def vc6 (C : Cb) (a0 a1 a2 : V) (H : Hp) (R : List V → Hp → Prop) : Prop :=
 C.aBx true 2 a0.nod H fun (v1 : V) (H2 : Hp) =>
 Jn (fun (l3 : List V) (H4 : Hp) =>
 aCond (l3.getD 3 .junk).nod (
 C.call 18 [] H4 fun (v6 : V) (H7 : Hp) =>
 R [v6] H7) (
 Jn (fun (l8 : List V) (H9 : Hp) =>
 C.aLd 2 true false (l8.getD 2 .junk).nod H9 fun (v11 : V) (H12 : Hp) =>
 C.call 28 [v11.nod, (l8.getD 1 .junk).nod.nod, (l8.getD 1 .junk).nod.nod] H12 fun (v13 : V) (H14 : Hp) =>
 C.aExt 0 v13.nod.nod fun (v15 : V) =>
 C.aExt 1 v13.nod.nod fun (v16 : V) =>
 C.aBx false 2 (V.agg [(V.arr [] .full), (V.arr [] .full)]) H14 fun (v17 : V) (H18 : Hp) =>
 C.aSt 2 v17.nod v15 H18 fun (v19 : V) (H20 : Hp) =>
 Jn (fun (l21 : List V) (H22 : Hp) =>
 C.aLd 2 true false (l21.getD 2 .junk).nod H22 fun (v24 : V) (H25 : Hp) =>
 C.call 28 [v24.nod, (l21.getD 0 .junk).nod.nod, (l21.getD 1 .junk).nod.nod] H25 fun (v26 : V) (H27 : Hp) =>
 C.aExt 0 v26.nod.nod fun (v28 : V) =>
 C.aExt 1 v26.nod.nod fun (v29 : V) =>
 C.aBx false 2 (V.agg [(V.arr [] .full), (V.arr [] .full)]) H27 fun (v30 : V) (H31 : Hp) =>
 C.aSt 2 v30.nod v28 H31 fun (v32 : V) (H33 : Hp) =>
 Jn (fun (l34 : List V) (H35 : Hp) =>
 aCond (l34.getD 3 .junk).nod (
 R [(B false)] H35) (
 Jn (fun (l37 : List V) (H38 : Hp) =>
 Jn (fun (l40 : List V) (H41 : Hp) =>
 aCond (l40.getD 3 .junk).nod (
 R [(B false)] H41) (
 C.aLd 2 true false (l40.getD 0 .junk).nod H41 fun (v43 : V) (H44 : Hp) =>
 C.calm 32 [v43.nod] H44 fun (v45 : V) =>
 C.aLd 2 true false (l40.getD 1 .junk).nod H44 fun (v46 : V) (H47 : Hp) =>
 C.calm 32 [v46.nod] H47 fun (v48 : V) =>
 C.aLd 2 true false (l40.getD 2 .junk).nod H47 fun (v49 : V) (H50 : Hp) =>
 C.call 32 [v49.nod] H50 fun (v51 : V) (H52 : Hp) =>
 Jn (fun (l53 : List V) (H54 : Hp) =>
 LoopA (fun (l56 : List V) (H57 : Hp) (K58 : List V → Hp → Prop) =>
 C.aLen (l56.getD 1 .junk).nod.nod fun (v59 : V) =>
 C.aBin (Try.prog.underlying 3) .lss (l56.getD 4 .junk).nod.nod v59.nod fun (v60 : V) =>
 aCond v60.nod (
 LoopA (fun (l61 : List V) (H62 : Hp) (K63 : List V → Hp → Prop) =>
 Jn (fun (l64 : List V) (H65 : Hp) =>
 C.aBin (Try.prog.underlying 3) .add (l64.getD 3 .junk).nod.nod (I 1) fun (v67 : V) =>
 K63 [(l64.getD 0 .junk), (l64.getD 1 .junk), (l64.getD 2 .junk), v67, (l64.getD 4 .junk)] H65)
 (fun (R66 : List V → Hp → Prop) =>
 C.aLen (l61.getD 0 .junk).nod.nod fun (v68 : V) =>
 C.aBin (Try.prog.underlying 3) .lss (l61.getD 3 .junk).nod.nod v68.nod fun (v69 : V) =>
 Jv (fun (v70 : V) (H71 : Hp) =>
 aCond v70.nod (
 R66 [(l61.getD 0 .junk), (l61.getD 1 .junk), (l61.getD 2 .junk), (l61.getD 3 .junk), (l61.getD 4 .junk)] H71) (
 C.aLen (l61.getD 0 .junk).nod.nod fun (v82 : V) =>
 C.aBin (Try.prog.underlying 3) .eql (l61.getD 3 .junk).nod.nod v82.nod fun (v83 : V) =>
 aCond v83.nod (
 R [(B false)] H71) (
 C.aBin (Try.prog.underlying 3) .add (l61.getD 4 .junk).nod.nod (I 1) fun (v84 : V) =>
 K58 [(l61.getD 0 .junk), (l61.getD 1 .junk), (l61.getD 2 .junk), (l61.getD 3 .junk), v84] H71)))
 (fun (R72 : V → Hp → Prop) =>
 aG v69.nod true (
 C.aIx 1 (l61.getD 1 .junk).nod.nod (l61.getD 4 .junk).nod.nod fun (v73 : V) =>
 C.aLd 1 false false v73.nod H62 fun (v74 : V) (H75 : Hp) =>
 C.aIx 1 (l61.getD 0 .junk).nod.nod (l61.getD 3 .junk).nod.nod fun (v76 : V) =>
 C.aLd 1 false false v76.nod H75 fun (v77 : V) (H78 : Hp) =>
 C.call 21 [v74.nod, v77.nod] H78 fun (v79 : V) (H80 : Hp) =>
 C.aUn .not v79.nod fun (v81 : V) =>
 R72 v81.nod H80) (
 R72 (B false) H62))))
 [(l56.getD 0 .junk), (l56.getD 1 .junk), (l56.getD 2 .junk), (l56.getD 3 .junk), (l56.getD 4 .junk)] H57) (
 Jn (fun (l85 : List V) (H86 : Hp) =>
 aCond (l85.getD 2 .junk).nod (
 R [(B false)] H86) (
 LoopA (fun (l88 : List V) (H89 : Hp) (K90 : List V → Hp → Prop) =>
 C.aLen (l88.getD 1 .junk).nod.nod fun (v91 : V) =>
 C.aBin (Try.prog.underlying 3) .lss (l88.getD 2 .junk).nod.nod v91.nod fun (v92 : V) =>
 aCond v92.nod (
 LoopA (fun (l93 : List V) (H94 : Hp) (K95 : List V → Hp → Prop) =>
 C.aIx 1 (l93.getD 1 .junk).nod.nod (l93.getD 2 .junk).nod.nod fun (v96 : V) =>
 C.aLd 1 false false v96.nod H94 fun (v97 : V) (H98 : Hp) =>
 C.aLen v97.nod fun (v99 : V) =>
 C.aBin (Try.prog.underlying 3) .lss (l93.getD 3 .junk).nod.nod v99.nod fun (v100 : V) =>
 aCond v100.nod (
 Jn (fun (l101 : List V) (H102 : Hp) =>
 aCond (l101.getD 4 .junk).nod (
 R [(B false)] H102) (
 C.aBin (Try.prog.underlying 3) .add (l101.getD 3 .junk).nod.nod (I 1) fun (v104 : V) =>
 K95 [(l101.getD 0 .junk), (l101.getD 1 .junk), (l101.getD 2 .junk), v104] H102))
 (fun (R103 : List V → Hp → Prop) =>
 C.aIx 1 (l93.getD 1 .junk).nod.nod (l93.getD 2 .junk).nod.nod fun (v105 : V) =>
 C.aLd 1 false false v105.nod H98 fun (v106 : V) (H107 : Hp) =>
 C.aIx 1 v106.nod (l93.getD 3 .junk).nod.nod fun (v108 : V) =>
 C.aLd 1 false false v108.nod H107 fun (v109 : V) (H110 : Hp) =>
 C.aIx 1 (l93.getD 0 .junk).nod.nod (l93.getD 2 .junk).nod.nod fun (v111 : V) =>
 C.aLd 1 false false v111.nod H110 fun (v112 : V) (H113 : Hp) =>
 C.aIx 1 (l93.getD 0 .junk).nod.nod (l93.getD 2 .junk).nod.nod fun (v114 : V) =>
 C.aLd 1 false false v114.nod H113 fun (v115 : V) (H116 : Hp) =>
 C.aLen v115.nod fun (v117 : V) =>
 C.aBin (Try.prog.underlying 3) .sub v117.nod (I 1) fun (v118 : V) =>
 C.aMM false [(l93.getD 3 .junk).nod.nod, v118.nod] fun (v119 : V) =>
 C.aIx 1 v112.nod v119.nod fun (v120 : V) =>
 C.aLd 1 false false v120.nod H116 fun (v121 : V) (H122 : Hp) =>
 C.aBin (Try.prog.underlying 3) .neq v109.nod v121.nod fun (v123 : V) =>
 R103 [(l93.getD 0 .junk), (l93.getD 1 .junk), (l93.getD 2 .junk), (l93.getD 3 .junk), v123] H122)) (
 C.aBin (Try.prog.underlying 3) .add (l93.getD 2 .junk).nod.nod (I 1) fun (v124 : V) =>
 K90 [(l93.getD 0 .junk), (l93.getD 1 .junk), v124] H98))
 [(l88.getD 0 .junk), (l88.getD 1 .junk), (l88.getD 2 .junk), (I 0)] H89) (
 C.call 18 [] H89 fun (v125 : V) (H126 : Hp) =>
 R [v125] H126))
 [(l85.getD 0 .junk), (l85.getD 1 .junk), (I 0)] H86))
 (fun (R87 : List V → Hp → Prop) =>
 C.aLen (l56.getD 2 .junk).nod.nod fun (v127 : V) =>
 C.aLen (l56.getD 0 .junk).nod.nod fun (v128 : V) =>
 C.aBin (Try.prog.underlying 3) .neq v127.nod v128.nod fun (v129 : V) =>
 R87 [(l56.getD 0 .junk), (l56.getD 2 .junk), v129] H57)))
 [(l53.getD 0 .junk), (l53.getD 1 .junk), (l53.getD 2 .junk), (l53.getD 3 .junk), (l53.getD 4 .junk)] H54)
 (fun (R55 : List V → Hp → Prop) =>
 R55 [v45, v48, v51, (I 0), (I 0)] H52)))
 (fun (R42 : List V → Hp → Prop) =>
 C.aFA 0 1 false (l37.getD 1 .junk).nod fun (v130 : V) =>
 C.aLd 1 false false v130.nod H38 fun (v131 : V) (H132 : Hp) =>
 C.aFA 1 1 false (l37.getD 1 .junk).nod fun (v133 : V) =>
 C.aLd 1 false false v133.nod H132 fun (v134 : V) (H135 : Hp) =>
 C.aIx 1 v134.nod (I 0) fun (v136 : V) =>
 C.aLd 1 false false v136.nod H135 fun (v137 : V) (H138 : Hp) =>
 C.aSlc 1 v131.nod none (some v137.nod) none fun (v139 : V) =>
 C.call 21 [v139.nod, (l37.getD 3 .junk).nod.nod] H138 fun (v140 : V) (H141 : Hp) =>
 C.aUn .not v140.nod fun (v142 : V) =>
 Jv (fun (v143 : V) (H144 : Hp) =>
 Jv (fun (v159 : V) (H160 : Hp) =>
 Jv (fun (v180 : V) (H181 : Hp) =>
 R42 [(l37.getD 0 .junk), (l37.getD 1 .junk), (l37.getD 2 .junk), v180] H181)
 (fun (R182 : V → Hp → Prop) =>
 aG v159.nod false (
 C.aFA 0 1 false (l37.getD 2 .junk).nod fun (v183 : V) =>
 C.aLd 1 false false v183.nod H160 fun (v184 : V) (H185 : Hp) =>
 C.aFA 1 1 false (l37.getD 2 .junk).nod fun (v186 : V) =>
 C.aLd 1 false false v186.nod H185 fun (v187 : V) (H188 : Hp) =>
 C.aFA 1 1 false (l37.getD 2 .junk).nod fun (v189 : V) =>
 C.aLd 1 false false v189.nod H188 fun (v190 : V) (H191 : Hp) =>
 C.aLen v190.nod fun (v192 : V) =>
 C.aBin (Try.prog.underlying 3) .sub v192.nod (I 1) fun (v193 : V) =>
 C.aIx 1 v187.nod v193.nod fun (v194 : V) =>
 C.aLd 1 false false v194.nod H191 fun (v195 : V) (H196 : Hp) =>
 C.aSlc 1 v184.nod (some v195.nod) none none fun (v197 : V) =>
 C.call 21 [v197.nod, (l37.getD 4 .junk).nod.nod] H196 fun (v198 : V) (H199 : Hp) =>
 C.aUn .not v198.nod fun (v200 : V) =>
 R182 v200.nod H199) (
 R182 (B true) H160)))
 (fun (R161 : V → Hp → Prop) =>
 aG v143.nod false (
 C.aFA 0 1 false (l37.getD 1 .junk).nod fun (v162 : V) =>
 C.aLd 1 false false v162.nod H144 fun (v163 : V) (H164 : Hp) =>
 C.aFA 1 1 false (l37.getD 1 .junk).nod fun (v165 : V) =>
 C.aLd 1 false false v165.nod H164 fun (v166 : V) (H167 : Hp) =>
 C.aFA 1 1 false (l37.getD 1 .junk).nod fun (v168 : V) =>
 C.aLd 1 false false v168.nod H167 fun (v169 : V) (H170 : Hp) =>
 C.aLen v169.nod fun (v171 : V) =>
 C.aBin (Try.prog.underlying 3) .sub v171.nod (I 1) fun (v172 : V) =>
 C.aIx 1 v166.nod v172.nod fun (v173 : V) =>
 C.aLd 1 false false v173.nod H170 fun (v174 : V) (H175 : Hp) =>
 C.aSlc 1 v163.nod (some v174.nod) none none fun (v176 : V) =>
 C.call 21 [v176.nod, (l37.getD 4 .junk).nod.nod] H175 fun (v177 : V) (H178 : Hp) =>
 C.aUn .not v177.nod fun (v179 : V) =>
 R161 v179.nod H178) (
 R161 (B true) H144)))
 (fun (R145 : V → Hp → Prop) =>
 aG v142.nod false (
 C.aFA 0 1 false (l37.getD 2 .junk).nod fun (v146 : V) =>
 C.aLd 1 false false v146.nod H141 fun (v147 : V) (H148 : Hp) =>
 C.aFA 1 1 false (l37.getD 2 .junk).nod fun (v149 : V) =>
 C.aLd 1 false false v149.nod H148 fun (v150 : V) (H151 : Hp) =>
 C.aIx 1 v150.nod (I 0) fun (v152 : V) =>
 C.aLd 1 false false v152.nod H151 fun (v153 : V) (H154 : Hp) =>
 C.aSlc 1 v147.nod none (some v153.nod) none fun (v155 : V) =>
 C.call 21 [v155.nod, (l37.getD 3 .junk).nod.nod] H154 fun (v156 : V) (H157 : Hp) =>
 C.aUn .not v156.nod fun (v158 : V) =>
 R145 v158.nod H157) (
 R145 (B true) H141))))
 (fun (R39 : List V → Hp → Prop) =>
 C.aFA 0 1 false (l34.getD 0 .junk).nod fun (v201 : V) =>
 C.aLd 1 false false v201.nod H35 fun (v202 : V) (H203 : Hp) =>
 C.aFA 1 1 false (l34.getD 0 .junk).nod fun (v204 : V) =>
 C.aLd 1 false false v204.nod H203 fun (v205 : V) (H206 : Hp) =>
 C.aIx 1 v205.nod (I 0) fun (v207 : V) =>
 C.aLd 1 false false v207.nod H206 fun (v208 : V) (H209 : Hp) =>
 C.aSlc 1 v202.nod none (some v208.nod) none fun (v210 : V) =>
 C.aFA 0 1 false (l34.getD 0 .junk).nod fun (v211 : V) =>
 C.aLd 1 false false v211.nod H209 fun (v212 : V) (H213 : Hp) =>
 C.aFA 1 1 false (l34.getD 0 .junk).nod fun (v214 : V) =>
 C.aLd 1 false false v214.nod H213 fun (v215 : V) (H216 : Hp) =>
 C.aFA 1 1 false (l34.getD 0 .junk).nod fun (v217 : V) =>
 C.aLd 1 false false v217.nod H216 fun (v218 : V) (H219 : Hp) =>
 C.aLen v218.nod fun (v220 : V) =>
 C.aBin (Try.prog.underlying 3) .sub v220.nod (I 1) fun (v221 : V) =>
 C.aIx 1 v215.nod v221.nod fun (v222 : V) =>
 C.aLd 1 false false v222.nod H219 fun (v223 : V) (H224 : Hp) =>
 C.aSlc 1 v212.nod (some v223.nod) none none fun (v225 : V) =>
 R39 [(l34.getD 0 .junk), (l34.getD 1 .junk), (l34.getD 2 .junk), v210, v225] H224)))
 (fun (R36 : List V → Hp → Prop) =>
 C.aBin (Try.prog.underlying 25) .neq (l21.getD 4 .junk).nod.nod (I 0) fun (v226 : V) =>
 Jv (fun (v227 : V) (H228 : Hp) =>
 Jv (fun (v231 : V) (H232 : Hp) =>
 Jv (fun (v235 : V) (H236 : Hp) =>
 Jv (fun (v239 : V) (H240 : Hp) =>
 Jv (fun (v249 : V) (H250 : Hp) =>
 Jv (fun (v259 : V) (H260 : Hp) =>
 Jv (fun (v267 : V) (H268 : Hp) =>
 R36 [(l21.getD 2 .junk), (l21.getD 7 .junk), v30, v267] H268)
 (fun (R269 : V → Hp → Prop) =>
 aG v259.nod false (
 C.aLd 2 true false v30.nod H260 fun (v270 : V) (H271 : Hp) =>
 C.call 30 [v270.nod] H271 fun (v272 : V) (H273 : Hp) =>
 C.aBin (Try.prog.underlying 25) .neq v272.nod (I 0) fun (v274 : V) =>
 R269 v274.nod H273) (
 R269 (B true) H260)))
 (fun (R261 : V → Hp → Prop) =>
 aG v249.nod false (
 C.aLd 2 true false (l21.getD 7 .junk).nod H250 fun (v262 : V) (H263 : Hp) =>
 C.call 30 [v262.nod] H263 fun (v264 : V) (H265 : Hp) =>
 C.aBin (Try.prog.underlying 25) .neq v264.nod (I 0) fun (v266 : V) =>
 R261 v266.nod H265) (
 R261 (B true) H250)))
 (fun (R251 : V → Hp → Prop) =>
 aG v239.nod false (
 C.aLd 2 true false (l21.getD 5 .junk).nod H240 fun (v252 : V) (H253 : Hp) =>
 C.aLd 2 true false (l21.getD 2 .junk).nod H253 fun (v254 : V) (H255 : Hp) =>
 C.call 31 [v252.nod, v254.nod] H255 fun (v256 : V) (H257 : Hp) =>
 C.aUn .not v256.nod fun (v258 : V) =>
 R251 v258.nod H257) (
 R251 (B true) H240)))
 (fun (R241 : V → Hp → Prop) =>
 aG v235.nod false (
 C.aLd 2 true false (l21.getD 3 .junk).nod H236 fun (v242 : V) (H243 : Hp) =>
 C.aLd 2 true false (l21.getD 2 .junk).nod H243 fun (v244 : V) (H245 : Hp) =>
 C.call 31 [v242.nod, v244.nod] H245 fun (v246 : V) (H247 : Hp) =>
 C.aUn .not v246.nod fun (v248 : V) =>
 R241 v248.nod H247) (
 R241 (B true) H236)))
 (fun (R237 : V → Hp → Prop) =>
 aG v231.nod false (
 C.aBin (Try.prog.underlying 25) .neq v29.nod.nod (I 0) fun (v238 : V) =>
 R237 v238.nod H232) (
 R237 (B true) H232)))
 (fun (R233 : V → Hp → Prop) =>
 aG v227.nod false (
 C.aBin (Try.prog.underlying 25) .neq (l21.getD 8 .junk).nod.nod (I 0) fun (v234 : V) =>
 R233 v234.nod H228) (
 R233 (B true) H228)))
 (fun (R229 : V → Hp → Prop) =>
 aG v226.nod false (
 C.aBin (Try.prog.underlying 25) .neq (l21.getD 6 .junk).nod.nod (I 0) fun (v230 : V) =>
 R229 v230.nod H33) (
 R229 (B true) H33))))
 (fun (R23 : List V → Hp → Prop) =>
 C.aLd 2 true false (l8.getD 2 .junk).nod H20 fun (v275 : V) (H276 : Hp) =>
 C.call 27 [v275.nod, (l8.getD 0 .junk).nod.nod, (l8.getD 1 .junk).nod.nod] H276 fun (v277 : V) (H278 : Hp) =>
 C.aExt 0 v277.nod.nod fun (v279 : V) =>
 C.aExt 1 v277.nod.nod fun (v280 : V) =>
 C.aBx false 2 (V.agg [(V.arr [] .full), (V.arr [] .full)]) H278 fun (v281 : V) (H282 : Hp) =>
 C.aSt 2 v281.nod v279 H282 fun (v283 : V) (H284 : Hp) =>
 R23 [(l8.getD 0 .junk), (l8.getD 1 .junk), (l8.getD 2 .junk), (l8.getD 3 .junk), (l8.getD 4 .junk), v17, v16, v281, v280] H284))
 (fun (R10 : List V → Hp → Prop) =>
 C.aLd 2 true false (l3.getD 2 .junk).nod H4 fun (v285 : V) (H286 : Hp) =>
 C.call 27 [v285.nod, (l3.getD 0 .junk).nod.nod, (l3.getD 0 .junk).nod.nod] H286 fun (v287 : V) (H288 : Hp) =>
 C.aExt 0 v287.nod.nod fun (v289 : V) =>
 C.aExt 1 v287.nod.nod fun (v290 : V) =>
 C.aBx false 2 (V.agg [(V.arr [] .full), (V.arr [] .full)]) H288 fun (v291 : V) (H292 : Hp) =>
 C.aSt 2 v291.nod v289 H292 fun (v293 : V) (H294 : Hp) =>
 R10 [(l3.getD 0 .junk), (l3.getD 1 .junk), (l3.getD 2 .junk), v291, v290] H294)))
 (fun (R5 : List V → Hp → Prop) =>
 C.aFA 0 1 false v1.nod fun (v295 : V) =>
 C.aLd 1 false false v295.nod H2 fun (v296 : V) (H297 : Hp) =>
 C.aLen v296.nod fun (v298 : V) =>
 C.aBin (Try.prog.underlying 3) .gtr v298.nod (I 400) fun (v299 : V) =>
 Jv (fun (v300 : V) (H301 : Hp) =>
 Jv (fun (v308 : V) (H309 : Hp) =>
 Jv (fun (v316 : V) (H317 : Hp) =>
 R5 [a1, a2, v1, v316] H317)
 (fun (R318 : V → Hp → Prop) =>
 aG v308.nod false (
 C.call 26 [a1.nod.nod, a2.nod.nod] H309 fun (v319 : V) (H320 : Hp) =>
 C.aUn .not v319.nod fun (v321 : V) =>
 R318 v321.nod H320) (
 R318 (B true) H309)))
 (fun (R310 : V → Hp → Prop) =>
 aG v300.nod false (
 C.aLd 2 true false v1.nod H301 fun (v311 : V) (H312 : Hp) =>
 C.call 30 [v311.nod] H312 fun (v313 : V) (H314 : Hp) =>
 C.aBin (Try.prog.underlying 25) .neq v313.nod (I 0) fun (v315 : V) =>
 R310 v315.nod H314) (
 R310 (B true) H301)))
 (fun (R302 : V → Hp → Prop) =>
 aG v299.nod false (
 C.aFA 1 1 false v1.nod fun (v303 : V) =>
 C.aLd 1 false false v303.nod H297 fun (v304 : V) (H305 : Hp) =>
 C.aLen v304.nod fun (v306 : V) =>
 C.aBin (Try.prog.underlying 3) .gtr v306.nod (I 400) fun (v307 : V) =>
 R302 v307.nod H305) (
 R302 (B true) H297)))
theorem wf6 : (Nat.ble 3 Try.f6.ntmps && wfC an6 Try.f6.ntmps (Try.f6.body.getD .skip)) = true := by kernel_rfl
theorem tie6 (C : Cb) (a0 a1 a2 : V) (H : Hp) (R : List V → Hp → Prop) : wpG Try.prog C an6 (Try.f6.body.getD .skip) (argF [a0, a1, a2]) H (retG Try.prog C Try.f6 R) (fun _ _ _ => False) (retG Try.prog C Try.f6 R) = vc6 C a0 a1 a2 H R := by kernel_rfl
theorem mk6 (a0 a1 a2 : V) {H : Hp} {v : V} {H1 : Hp} (hd : v.Nd) (hn : H.length ≤ H1.length) (hb : H1 = H ∨ ∀ (b : Nat) (blk : Blk), H1[b]? = some blk → H[b]? = some blk ∨ BelB H1.length blk) (h : vc6 (real Try.prog) a0 a1 a2 H (retF v H1)) : Ret Try.prog 6 [a0, a1, a2] H v H1 :=
  ret_mk (an := an6) hm Try.call6 Try.func6 rfl wf6 hd hn hb (Eq.mpr (tie6 (real Try.prog) a0 a1 a2 H (retF v H1)) h)
theorem mko6 (a0 a1 a2 : V) {H : Hp} {xs : List V} {H1 : Hp} (hn : H.length ≤ H1.length) (hb : H1 = H ∨ ∀ (b : Nat) (blk : Blk), H1[b]? = some blk → H[b]? = some blk ∨ BelB H1.length blk) (h : vc6 (real Try.prog) a0 a1 a2 H (retO xs H1)) : Ret Try.prog 6 [a0, a1, a2] H (.arr xs .own) H1 :=
  ret_mko (an := an6) (t := 6) hm Try.call6 Try.func6 rfl wf6 rfl hn hb (Eq.mpr (tie6 (real Try.prog) a0 a1 a2 H (retO xs H1)) h)

end Go.Proofs.Ytehjfjdknllmhaa
