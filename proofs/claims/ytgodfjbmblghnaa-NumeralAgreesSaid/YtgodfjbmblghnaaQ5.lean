/- NumeralAgrees: each word is the form of the term that its reason names, and a quotient or a rest inside is spelled as it is spelled alone; no condition. -/
import Derived.Test.YtgodfjbmblghnaaP6
import Derived.Test.YtgodfjbmblghnaaProg
import Derived.Test.YtgodfjbmblghnaaRows
set_option linter.unusedVariables false
set_option maxRecDepth 20000
set_option maxHeartbeats 4000000
namespace Go.Proofs.Ytgodfjbmblghnaa
open Go Go.Ab Go.Proofs
def an5 : An := { imm := [2, 3, 10], jn := [(2, [2, 3, 24]), (5, [2, 3, 5, 6, 33]), (7, [2, 3, 5, 7]), (10, [2, 3, 5, 7, 8, 9]), (12, [2, 3, 5, 7, 8, 9, 10]), (15, [2, 3, 5, 7, 8, 9, 10, 11, 75]), (17, [2, 3, 5, 7, 8, 9, 10, 11, 12]), (18, [2, 3, 5, 7, 8, 9, 10, 11, 12]), (21, [2, 3, 5, 7, 8, 9, 10, 11]), (22, [2, 3, 5, 7, 8, 9, 11, 119]), (23, [2, 3, 5, 7, 8, 9, 11]), (25, [2, 3, 5, 7, 8, 9]), (28, [2, 3, 5, 7, 8, 9, 13, 168]), (33, [2, 3, 5, 7, 8, 9, 13, 15, 196])], lp := [(9, [2, 3, 5, 7, 8, 9]), (17, [2, 3, 5, 7, 8, 9, 10, 11, 12]), (24, [2, 3, 5, 7, 8, 9]), (30, [2, 3, 5, 7, 8, 9, 13, 15])], loud := [], ord := [] }
def vc5 (C : Cb) (a0 a1 : V) (H : Hp) (R : List V → Hp → Prop) : Prop :=
 C.aBx true 7 a0.nod H fun v1 H2 =>
 C.aBx true 4 a1.nod H2 fun v3 H4 =>
 Jn (fun l5 H6 =>
 aCond (l5.getD 2 .junk).nod (
 C.callE 15 [] H6 fun v8 H9 =>
 R [v8] H9) (
 C.aLd 7 true false (l5.getD 0 .junk).nod H6 fun v10 H11 =>
 C.aLd 4 true false (l5.getD 1 .junk).nod H11 fun v12 H13 =>
 C.callE 21 [v10.nod, v12.nod] H13 fun v14 H15 =>
 C.aExt 0 v14.nod.nod fun v16 =>
 C.aExt 1 v14.nod.nod fun v17 =>
 Jn (fun l18 H19 =>
 aCond (l18.getD 4 .junk).nod (
 C.aBin (Try.prog.underlying 29) .eql (l18.getD 3 .junk).nod.nod (I 5) fun v21 =>
 Jv (fun v22 H23 =>
 R [v22] H23)
 (fun R24 =>
 aG v21.nod true (
 C.callE 15 [] H19 fun v25 H26 =>
 R24 v25.nod H26) (
 R24 (B false) H19))) (
 Jn (fun l27 H28 =>
 LoopA (fun l30 H31 K32 =>
 C.aFA 2 1 false (l30.getD 3 .junk).nod fun v33 =>
 C.aLd 1 false false v33.nod H31 fun v34 H35 =>
 C.aLen v34.nod fun v36 =>
 C.aBin (Try.prog.underlying 3) .lss (l30.getD 5 .junk).nod.nod v36.nod fun v37 =>
 aCond v37.nod (
 Jn (fun l38 H39 =>
 C.aBin (Try.prog.underlying 3) .add (l38.getD 5 .junk).nod.nod (I 1) fun v41 =>
 K32 [(l38.getD 0 .junk), (l38.getD 1 .junk), (l38.getD 2 .junk), (l38.getD 3 .junk), (l38.getD 4 .junk), v41] H39)
 (fun R40 =>
 Jn (fun l42 H43 =>
 C.aLd 4 true false (l42.getD 1 .junk).nod H43 fun v45 H46 =>
 C.aBx false 4 (V.agg [(I 0), (I 0), (I 0), (I 0)]) H46 fun v47 H48 =>
 C.aSt 4 v47.nod v45 H48 fun v49 H50 =>
 C.aFA 2 1 false (l42.getD 6 .junk).nod fun v51 =>
 C.aLd 1 false false v51.nod H50 fun v52 H53 =>
 C.aFA 1 1 false v47.nod fun v54 =>
 C.aSt 1 v54.nod v52 H53 fun v55 H56 =>
 C.aFA 0 1 false v47.nod fun v57 =>
 C.aSt 1 v57.nod (I (-1)) H56 fun v58 H59 =>
 Jn (fun l60 H61 =>
 Jn (fun l63 H64 =>
 C.aFA 0 1 false (l63.getD 6 .junk).nod fun v66 =>
 C.aLd 1 false false v66.nod H64 fun v67 H68 =>
 C.aBin (Try.prog.underlying 3) .lss v67.nod (I 0) fun v69 =>
 aCond v69.nod (
 LoopA (fun l70 H71 K72 =>
 Jn (fun l73 H74 =>
 C.aBin (Try.prog.underlying 3) .add (l73.getD 4 .junk).nod.nod (I 1) fun v76 =>
 K72 [(l73.getD 0 .junk), (l73.getD 1 .junk), (l73.getD 2 .junk), (l73.getD 3 .junk), v76, (l73.getD 5 .junk)] H74)
 (fun R75 =>
 C.aLen (l70.getD 2 .junk).nod.nod fun v77 =>
 C.aBin (Try.prog.underlying 3) .lss (l70.getD 4 .junk).nod.nod v77.nod fun v78 =>
 Jv (fun v79 H80 =>
 Jv (fun v87 H88 =>
 aCond v87.nod (
 R75 [(l70.getD 0 .junk), (l70.getD 1 .junk), (l70.getD 2 .junk), (l70.getD 3 .junk), (l70.getD 4 .junk), (l70.getD 5 .junk)] H88) (
 R40 [(l70.getD 0 .junk), (l70.getD 1 .junk), (l70.getD 2 .junk), (l70.getD 3 .junk), (l70.getD 4 .junk), (l70.getD 5 .junk)] H88))
 (fun R89 =>
 aG v79.nod true (
 C.aIx 6 (l70.getD 2 .junk).nod.nod (l70.getD 4 .junk).nod.nod fun v90 =>
 C.aFA 4 1 false v90.nod fun v91 =>
 C.aLd 1 false false v91.nod H80 fun v92 H93 =>
 C.aBin (Try.prog.underlying 3) .eql v92.nod (l70.getD 5 .junk).nod.nod fun v94 =>
 R89 v94.nod H93) (
 R89 (B false) H80)))
 (fun R81 =>
 aG v78.nod true (
 C.aIx 6 (l70.getD 2 .junk).nod.nod (l70.getD 4 .junk).nod.nod fun v82 =>
 C.aFA 5 1 false v82.nod fun v83 =>
 C.aLd 1 false false v83.nod H71 fun v84 H85 =>
 C.aBin (Try.prog.underlying 3) .eql v84.nod (I 0) fun v86 =>
 R81 v86.nod H85) (
 R81 (B false) H71))))
 [(l63.getD 0 .junk), (l63.getD 1 .junk), (l63.getD 2 .junk), (l63.getD 3 .junk), (l63.getD 4 .junk), (l63.getD 5 .junk)] H68) (
 C.aLd 7 true false (l63.getD 0 .junk).nod H68 fun v95 H96 =>
 C.aLd 4 true false (l63.getD 6 .junk).nod H96 fun v97 H98 =>
 C.callE 20 [v95.nod, v97.nod] H98 fun v99 H100 =>
 C.aExt 0 v99.nod.nod fun v101 =>
 C.aExt 1 v99.nod.nod fun v102 =>
 Jn (fun l103 H104 =>
 aCond (l103.getD 7 .junk).nod (
 R [(B false)] H104) (
 LoopA (fun l106 H107 K108 =>
 C.aLen (l106.getD 6 .junk).nod.nod fun v109 =>
 C.aBin (Try.prog.underlying 3) .lss (l106.getD 7 .junk).nod.nod v109.nod fun v110 =>
 aCond v110.nod (
 Jn (fun l111 H112 =>
 aCond (l111.getD 8 .junk).nod (
 R [(B false)] H112) (
 C.aBin (Try.prog.underlying 3) .add (l111.getD 7 .junk).nod.nod (I 1) fun v114 =>
 K108 [(l111.getD 0 .junk), (l111.getD 1 .junk), (l111.getD 2 .junk), (l111.getD 3 .junk), (l111.getD 4 .junk), (l111.getD 5 .junk), (l111.getD 6 .junk), v114] H112))
 (fun R113 =>
 C.aBin (Try.prog.underlying 3) .add (l106.getD 4 .junk).nod.nod (l106.getD 7 .junk).nod.nod fun v115 =>
 C.aIx 6 (l106.getD 2 .junk).nod.nod v115.nod fun v116 =>
 C.aFA 0 1 false v116.nod fun v117 =>
 C.aLd 1 false false v117.nod H107 fun v118 H119 =>
 C.aIx 1 (l106.getD 6 .junk).nod.nod (l106.getD 7 .junk).nod.nod fun v120 =>
 C.aLd 1 false false v120.nod H119 fun v121 H122 =>
 C.aBin (Try.prog.underlying 9) .neq v118.nod v121.nod fun v123 =>
 Jv (fun v124 H125 =>
 R113 [(l106.getD 0 .junk), (l106.getD 1 .junk), (l106.getD 2 .junk), (l106.getD 3 .junk), (l106.getD 4 .junk), (l106.getD 5 .junk), (l106.getD 6 .junk), (l106.getD 7 .junk), v124] H125)
 (fun R126 =>
 aG v123.nod false (
 C.aBin (Try.prog.underlying 3) .add (l106.getD 4 .junk).nod.nod (l106.getD 7 .junk).nod.nod fun v127 =>
 C.aIx 6 (l106.getD 2 .junk).nod.nod v127.nod fun v128 =>
 C.aFA 5 1 false v128.nod fun v129 =>
 C.aLd 1 false false v129.nod H122 fun v130 H131 =>
 C.aBin (Try.prog.underlying 3) .lss v130.nod (I 1) fun v132 =>
 R126 v132.nod H131) (
 R126 (B true) H122)))) (
 C.aLen (l106.getD 6 .junk).nod.nod fun v133 =>
 C.aBin (Try.prog.underlying 3) .add (l106.getD 4 .junk).nod.nod v133.nod fun v134 =>
 R40 [(l106.getD 0 .junk), (l106.getD 1 .junk), (l106.getD 2 .junk), (l106.getD 3 .junk), v134, (l106.getD 5 .junk)] H107))
 [(l103.getD 0 .junk), (l103.getD 1 .junk), (l103.getD 2 .junk), (l103.getD 3 .junk), (l103.getD 4 .junk), (l103.getD 5 .junk), (l103.getD 6 .junk), (I 0)] H104))
 (fun R105 =>
 C.aBin (Try.prog.underlying 29) .neq v102.nod.nod (I 0) fun v135 =>
 Jv (fun v136 H137 =>
 R105 [(l63.getD 0 .junk), (l63.getD 1 .junk), (l63.getD 2 .junk), (l63.getD 3 .junk), (l63.getD 4 .junk), (l63.getD 5 .junk), v101, v136] H137)
 (fun R138 =>
 aG v135.nod false (
 C.aLen v101.nod.nod fun v139 =>
 C.aBin (Try.prog.underlying 3) .add (l63.getD 4 .junk).nod.nod v139.nod fun v140 =>
 C.aLen (l63.getD 2 .junk).nod.nod fun v141 =>
 C.aBin (Try.prog.underlying 3) .gtr v140.nod v141.nod fun v142 =>
 R138 v142.nod H100) (
 R138 (B true) H100)))))
 (fun R65 =>
 Jn (fun l143 H144 =>
 aCond (l143.getD 7 .junk).nod (
 C.aFA 0 1 false (l143.getD 1 .junk).nod fun v146 =>
 C.aLd 1 false false v146.nod H144 fun v147 H148 =>
 C.aFA 1 1 false (l143.getD 3 .junk).nod fun v149 =>
 C.aLd 1 false false v149.nod H148 fun v150 H151 =>
 C.aBin (Try.prog.underlying 3) .rem v147.nod v150.nod fun v152 =>
 C.aFA 0 1 false (l143.getD 6 .junk).nod fun v153 =>
 C.aSt 1 v153.nod v152 H151 fun v154 H155 =>
 R65 [(l143.getD 0 .junk), (l143.getD 1 .junk), (l143.getD 2 .junk), (l143.getD 3 .junk), (l143.getD 4 .junk), (l143.getD 5 .junk), (l143.getD 6 .junk)] H155) (
 R65 [(l143.getD 0 .junk), (l143.getD 1 .junk), (l143.getD 2 .junk), (l143.getD 3 .junk), (l143.getD 4 .junk), (l143.getD 5 .junk), (l143.getD 6 .junk)] H144))
 (fun R145 =>
 C.aFA 0 1 false (l60.getD 6 .junk).nod fun v156 =>
 C.aLd 1 false false v156.nod H61 fun v157 H158 =>
 C.aBin (Try.prog.underlying 57) .eql v157.nod (I 4) fun v159 =>
 Jv (fun v160 H161 =>
 R145 [(l60.getD 0 .junk), (l60.getD 1 .junk), (l60.getD 2 .junk), (l60.getD 3 .junk), (l60.getD 4 .junk), (l60.getD 5 .junk), (l60.getD 7 .junk), v160] H161)
 (fun R162 =>
 aG v159.nod true (
 C.aFA 0 1 false (l60.getD 1 .junk).nod fun v163 =>
 C.aLd 1 false false v163.nod H158 fun v164 H165 =>
 C.aFA 1 1 false (l60.getD 3 .junk).nod fun v166 =>
 C.aLd 1 false false v166.nod H165 fun v167 H168 =>
 C.aBin (Try.prog.underlying 3) .rem v164.nod v167.nod fun v169 =>
 C.aBin (Try.prog.underlying 3) .gtr v169.nod (I 0) fun v170 =>
 R162 v170.nod H168) (
 R162 (B false) H158)))))
 (fun R62 =>
 Jn (fun l171 H172 =>
 aCond (l171.getD 8 .junk).nod (
 C.aFA 0 1 false (l171.getD 1 .junk).nod fun v174 =>
 C.aLd 1 false false v174.nod H172 fun v175 H176 =>
 C.aFA 1 1 false (l171.getD 3 .junk).nod fun v177 =>
 C.aLd 1 false false v177.nod H176 fun v178 H179 =>
 C.aBin (Try.prog.underlying 3) .quo v175.nod v178.nod fun v180 =>
 C.aFA 0 1 false (l171.getD 7 .junk).nod fun v181 =>
 C.aSt 1 v181.nod v180 H179 fun v182 H183 =>
 Jn (fun l184 H185 =>
 LoopA (fun l187 H188 K189 =>
 C.aBin (Try.prog.underlying 3) .geq (l187.getD 8 .junk).nod.nod (I 0) fun v190 =>
 aCond v190.nod (
 Jn (fun l191 H192 =>
 C.aBin (Try.prog.underlying 3) .sub (l191.getD 8 .junk).nod.nod (I 1) fun v194 =>
 K189 [(l191.getD 0 .junk), (l191.getD 1 .junk), (l191.getD 2 .junk), (l191.getD 3 .junk), (l191.getD 4 .junk), (l191.getD 5 .junk), (l191.getD 6 .junk), (l191.getD 7 .junk), v194] H192)
 (fun R193 =>
 C.aFA 2 1 false (l187.getD 3 .junk).nod fun v195 =>
 C.aLd 1 false false v195.nod H188 fun v196 H197 =>
 C.aIx 4 v196.nod (l187.getD 8 .junk).nod.nod fun v198 =>
 C.aFA 0 1 false v198.nod fun v199 =>
 C.aLd 1 false false v199.nod H197 fun v200 H201 =>
 C.aBin (Try.prog.underlying 57) .eql v200.nod (I 2) fun v202 =>
 aCond v202.nod (
 C.aFA 4 1 false (l187.getD 0 .junk).nod fun v203 =>
 C.aLd 1 false false v203.nod H201 fun v204 H205 =>
 C.aFA 2 1 false (l187.getD 3 .junk).nod fun v206 =>
 C.aLd 1 false false v206.nod H205 fun v207 H208 =>
 C.aIx 4 v207.nod (l187.getD 8 .junk).nod.nod fun v209 =>
 C.aFA 1 1 false v209.nod fun v210 =>
 C.aLd 1 false false v210.nod H208 fun v211 H212 =>
 C.aIx 2 v204.nod v211.nod fun v213 =>
 C.aFA 0 1 false v213.nod fun v214 =>
 C.aLd 1 false false v214.nod H212 fun v215 H216 =>
 C.aFA 2 1 false (l187.getD 7 .junk).nod fun v217 =>
 C.aSt 1 v217.nod v215 H216 fun v218 H219 =>
 R193 [(l187.getD 0 .junk), (l187.getD 1 .junk), (l187.getD 2 .junk), (l187.getD 3 .junk), (l187.getD 4 .junk), (l187.getD 5 .junk), (l187.getD 6 .junk), (l187.getD 7 .junk), (l187.getD 8 .junk)] H219) (
 R193 [(l187.getD 0 .junk), (l187.getD 1 .junk), (l187.getD 2 .junk), (l187.getD 3 .junk), (l187.getD 4 .junk), (l187.getD 5 .junk), (l187.getD 6 .junk), (l187.getD 7 .junk), (l187.getD 8 .junk)] H201))) (
 R62 [(l187.getD 0 .junk), (l187.getD 1 .junk), (l187.getD 2 .junk), (l187.getD 3 .junk), (l187.getD 4 .junk), (l187.getD 5 .junk), (l187.getD 6 .junk), (l187.getD 7 .junk)] H188))
 [(l184.getD 0 .junk), (l184.getD 1 .junk), (l184.getD 2 .junk), (l184.getD 3 .junk), (l184.getD 4 .junk), (l184.getD 5 .junk), (l184.getD 6 .junk), (l184.getD 7 .junk), (l184.getD 8 .junk)] H185)
 (fun R186 =>
 C.aFA 2 1 false (l171.getD 3 .junk).nod fun v220 =>
 C.aLd 1 false false v220.nod H183 fun v221 H222 =>
 C.aLen v221.nod fun v223 =>
 C.aBin (Try.prog.underlying 3) .sub v223.nod (I 1) fun v224 =>
 R186 [(l171.getD 0 .junk), (l171.getD 1 .junk), (l171.getD 2 .junk), (l171.getD 3 .junk), (l171.getD 4 .junk), (l171.getD 5 .junk), (l171.getD 6 .junk), (l171.getD 7 .junk), v224] H222)) (
 R62 [(l171.getD 0 .junk), (l171.getD 1 .junk), (l171.getD 2 .junk), (l171.getD 3 .junk), (l171.getD 4 .junk), (l171.getD 5 .junk), (l171.getD 6 .junk), (l171.getD 7 .junk)] H172))
 (fun R173 =>
 C.aFA 0 1 false (l42.getD 6 .junk).nod fun v225 =>
 C.aLd 1 false false v225.nod H59 fun v226 H227 =>
 C.aBin (Try.prog.underlying 57) .eql v226.nod (I 3) fun v228 =>
 R173 [(l42.getD 0 .junk), (l42.getD 1 .junk), (l42.getD 2 .junk), (l42.getD 3 .junk), (l42.getD 4 .junk), (l42.getD 5 .junk), (l42.getD 6 .junk), v47, v228] H227)))
 (fun R44 =>
 C.aFA 2 1 false (l30.getD 3 .junk).nod fun v229 =>
 C.aLd 1 false false v229.nod H35 fun v230 H231 =>
 C.aIx 4 v230.nod (l30.getD 5 .junk).nod.nod fun v232 =>
 C.aLd 4 true false v232.nod H231 fun v233 H234 =>
 C.aBx true 4 v233.nod H234 fun v235 H236 =>
 R44 [(l30.getD 0 .junk), (l30.getD 1 .junk), (l30.getD 2 .junk), (l30.getD 3 .junk), (l30.getD 4 .junk), (l30.getD 5 .junk), v235] H236))) (
 C.aLen (l30.getD 2 .junk).nod.nod fun v237 =>
 C.aBin (Try.prog.underlying 3) .eql (l30.getD 4 .junk).nod.nod v237.nod fun v238 =>
 Jv (fun v239 H240 =>
 R [v239] H240)
 (fun R241 =>
 aG v238.nod true (
 C.callE 15 [] H35 fun v242 H243 =>
 R241 v242.nod H243) (
 R241 (B false) H35))))
 [(l27.getD 0 .junk), (l27.getD 1 .junk), (l27.getD 2 .junk), (l27.getD 3 .junk), (I 0), (I 0)] H28)
 (fun R29 =>
 C.aFA 6 1 false (l18.getD 0 .junk).nod fun v244 =>
 C.aLd 1 false false v244.nod H19 fun v245 H246 =>
 C.aFA 1 1 false (l18.getD 1 .junk).nod fun v247 =>
 C.aLd 1 false false v247.nod H246 fun v248 H249 =>
 C.aIx 1 v245.nod v248.nod fun v250 =>
 C.aLd 1 false false v250.nod H249 fun v251 H252 =>
 C.aFA 6 1 false (l18.getD 0 .junk).nod fun v253 =>
 C.aLd 1 false false v253.nod H252 fun v254 H255 =>
 C.aFA 1 1 false (l18.getD 1 .junk).nod fun v256 =>
 C.aLd 1 false false v256.nod H255 fun v257 H258 =>
 C.aIx 1 v254.nod v257.nod fun v259 =>
 C.aLd 1 false false v259.nod H258 fun v260 H261 =>
 C.aFA 0 1 false (l18.getD 1 .junk).nod fun v262 =>
 C.aLd 1 false false v262.nod H261 fun v263 H264 =>
 C.calm 26 [v260.nod, v263.nod] H264 fun v265 =>
 C.aIx 3 v251.nod v265.nod fun v266 =>
 C.aLd 3 true false v266.nod H264 fun v267 H268 =>
 C.aBx false 3 (V.agg [(I 0), (I 0), (V.arr [] .full)]) H268 fun v269 H270 =>
 C.aSt 3 v269.nod v267 H270 fun v271 H272 =>
 R29 [(l18.getD 0 .junk), (l18.getD 1 .junk), (l18.getD 2 .junk), v269] H272)))
 (fun R20 =>
 C.aBin (Try.prog.underlying 29) .neq v17.nod.nod (I 0) fun v273 =>
 R20 [(l5.getD 0 .junk), (l5.getD 1 .junk), v16, v17, v273] H15)))
 (fun R7 =>
 C.aLd 7 true false v1.nod H4 fun v274 H275 =>
 C.callE 14 [v274.nod] H275 fun v276 H277 =>
 C.aUn .not v276.nod fun v278 =>
 Jv (fun v279 H280 =>
 R7 [v1, v3, v279] H280)
 (fun R281 =>
 aG v278.nod false (
 C.aLd 7 true false v1.nod H277 fun v282 H283 =>
 C.aLd 4 true false v3.nod H283 fun v284 H285 =>
 C.callE 22 [v282.nod, v284.nod, (B false)] H285 fun v286 H287 =>
 C.aBin (Try.prog.underlying 29) .neq v286.nod (I 0) fun v288 =>
 R281 v288.nod H287) (
 R281 (B true) H277)))
theorem wf5 : (Nat.ble 2 Try.f5.ntmps && wfC an5 Try.f5.ntmps (Try.f5.body.getD .skip)) = true := by kernel_rfl
theorem tie5 (C : Cb) (a0 a1 : V) (H : Hp) (R : List V → Hp → Prop) : wpG Try.prog C an5 (Try.f5.body.getD .skip) (argF [a0, a1]) H (retG Try.prog C Try.f5 R) (fun _ _ _ => False) (retG Try.prog C Try.f5 R) = vc5 C a0 a1 H R := by kernel_rfl
theorem mk5 (a0 a1 : V) {H : Hp} {v : V} {H1 : Hp} (hd : v.Nd) (hn : H.length ≤ H1.length) (hb : H1 = H ∨ ∀ (b : Nat) (blk : Blk), H1[b]? = some blk → H[b]? = some blk ∨ BelB H1.length blk) (h : vc5 (real Try.prog) a0 a1 H (retF v H1)) : Ret Try.prog 5 [a0, a1] H v H1 :=
  ret_mk (an := an5) hm Try.call5 Try.func5 rfl wf5 hd hn hb (Eq.mpr (tie5 (real Try.prog) a0 a1 H (retF v H1)) h)
theorem mkE5 (a0 a1 : V) {H : Hp} {Q : V → Hp → Prop} (h : vc5 (real Try.prog) a0 a1 H (retW Q)) : RetE Try.prog 5 [a0, a1] H Q :=
  retE_mk (an := an5) hm Try.call5 Try.func5 rfl wf5 (Eq.mpr (tie5 (real Try.prog) a0 a1 H (retW Q)) h)
theorem mko5 (a0 a1 : V) {H : Hp} {xs : List V} {H1 : Hp} (hn : H.length ≤ H1.length) (hb : H1 = H ∨ ∀ (b : Nat) (blk : Blk), H1[b]? = some blk → H[b]? = some blk ∨ BelB H1.length blk) (h : vc5 (real Try.prog) a0 a1 H (retO xs H1)) : Ret Try.prog 5 [a0, a1] H (.arr xs .own) H1 :=
  ret_mko (an := an5) (t := 4) hm Try.call5 Try.func5 rfl wf5 rfl hn hb (Eq.mpr (tie5 (real Try.prog) a0 a1 H (retO xs H1)) h)
end Go.Proofs.Ytgodfjbmblghnaa


set_option linter.unusedVariables false
set_option linter.unusedSimpArgs false
set_option linter.unnecessarySimpa false
set_option maxRecDepth 20000
set_option maxHeartbeats 2000000
namespace Go.Proofs.Ytgodfjbmblghnaa
open Go Go.Ab Go.Proofs
attribute [local congr] g_bin g_nilS g_nilP g_un g_ext g_bx g_fa g_ld g_st g_ix g_ixA g_slc g_mk g_bs g_bd g_nc g_cv g_len g_lenT g_app g_appB g_cpy g_mm g_call g_callG g_calm g_calmG g_range g_res g_pick g_cond g_loop g_Jv g_eqS g_eqP g_fd g_ixT g_ta g_lkp g_upd g_mkM g_appS g_inv g_callE g_callEG g_invE g_zr g_wr
theorem spE_ok {s : Sy} {n t g k : Int} (h : okAsk s n t g k = true) : spE s n t g k = if (saW s n t g k).all gdW = true then 0 else 5 := if_pos h
theorem spL_ok {s : Sy} {n t g k : Int} (h : okAsk s n t g k = true) : spL s n t g k = trW s n t g k := if_pos h
theorem rfE_no {s : Sy} {n t g k : Int} {sc : Bool} (h : okAsk s n t g k = false) : rfE s n t g k sc = 2 := if_neg (by rw [h]; decide)
theorem rfE_ok {s : Sy} {n t g k : Int} (h : okAsk s n t g k = true) : rfE s n t g k false = 0 := by unfold rfE; rw [if_pos h, if_neg (fun h => by cases h.1)]
theorem okAsk_of {s : Sy} {n t g k : Int} (h1 : okSy s = true) (h2 : 0 ≤ n) (h3 : n ≤ s.top) (h5 : 0 ≤ t) (h6 : t < s.se.length) (h7 : 0 ≤ g) (h8 : g < s.gen) (h9 : 0 ≤ k) (h10 : k < s.cas) : okAsk s n t g k = true := by
  unfold okAsk
  simp only [Bool.and_eq_true, inB_iff]
  refine ⟨⟨⟨⟨h1, ?_⟩, ?_⟩, ?_⟩, ?_⟩ <;> omega
theorem cnt_gen {s : Sy} {r : Nu} {g : Int} (ok : okSy s = true) (h0 : 0 ≤ g) (h1 : g < s.gen) (hk : ∀ p, p ∈ r.p → p.k = 2 → 0 ≤ p.t ∧ p.t < s.te.length) : 0 ≤ cntG s r g ∧ cntG s r g < s.gen := by
  unfold cntG
  by_cases h : 0 ≤ idxI (fun p : Pi => decide (p.k = 2)) r.p
  · rw [if_pos h]
    obtain ⟨m1, m2⟩ := idxI_pos r.p h
    obtain ⟨m3, m4⟩ := hk _ m1 m2
    have hm := List.all_eq_true.1 (okSy.parts ok).2.2.1 _ (getD_memA s.te default (show (r.p.getD (idxI (fun p : Pi => decide (p.k = 2)) r.p).toNat default).t.toNat < s.te.length by omega))
    unfold okTe at hm
    simp only [Bool.and_eq_true, inB_iff] at hm
    omega
  · rw [if_neg h]; exact ⟨h0, h1⟩
theorem c5 (s : Sy) (n t g k : Int) (H : Hp) (sm : Sm s) : Ret Try.prog 5 [syV s, asV n t g k] H (B true) H := by
  have hse := sm.se
  have hte := sm.te
  refine mk5 _ _ rfl (Nat.le_refl _) (.inl rfl) ?_
  simp only [vc5, real]
  repeat (first | (with_reducible first | refine Ju.go ?_ | (refine Hd.go ?_; intro K Q hK hQ; simp only [nod_agg, List.map_cons, nodL_imm, nodL_arr, nd_no, List.map_nil, e_bxI, okE_agg, lv_cons, List.length_nil, Nat.zero_add, Nat.reduceAdd, all_c, ck_I, ck_arr, all_n, Bool.and_self, and_true, true_and, nod_cptr, e_ldcA]; subst hK hQ) | refine Jr.go ?_) | refine sd ?_)
  refine callE_of (c14 s H sm) fun v H1 ⟨hH, b, hv⟩ => ?_
  replace hH := hH.symm
  subst hv hH
  cases b
  · repeat (first | (with_reducible first | refine Ju.go ?_ | (refine Hd.go ?_; intro K Q hK hQ; simp only [nod_imm, e_not, Bool.not_false, nod_cptr, Try.underlying29, e_ldcA, lv_cons, List.length_nil, Nat.zero_add, Nat.reduceAdd, nod_agg, List.map_cons, nodL_imm, List.map_nil, true_and, nodL_arr, nd_no, e_gF, cond_true, j_one, List.getD_cons_succ, List.getD_cons_zero, e_cond, if_true]; subst hK hQ) | refine Jr.go ?_) | refine sd ?_)
    refine call_of (c15 _) ?_
    repeat (first | (with_reducible first | refine Ju.go ?_ | (refine Hd.go ?_; intro K Q hK hQ; simp only [Try.underlying3, Try.underlying4, Try.underlying5, Try.underlying9, Try.underlying29, Try.underlying57, Try.underlying55, j_one, j_side, j_tl, j_fl, nod_nod, nod_imm, nod_ints, nd_no, nd_own, nd_full, nd_fO, oF_ap, oF_succ, nod_sl, nod_ptr, nod_cptr, nod_fn, nod_junk, nodL_imm, nod_agg, nod_tup, nod2_imm, nod2_agg, cl_imm, cl_ints, cl_agg, e_add, e_sub, e_mul, e_quo, e_rem, e_eql, e_neq, e_lss, e_leq, e_gtr, e_geq, e_beq, e_bne, e_neg, e_not, e_pick, e_cond, e_gT, e_gF, e_len, e_lenA, e_lenS, e_ix, e_ixS, e_ldc, e_ldci, e_fa, rep_cl, rep_I, e_bx, okE_I, okE_B, okE_E8, okE_ints, stV_imm, stV_ints, j_and', j_or', List.getD_cons_zero, List.getD_cons_succ, List.map_cons, List.map_nil, decide_eq_true_eq, Int.toNat_natCast, Nat.mul_one, Nat.zero_add, true_and, and_true, List.length_map, Bool.not_eq_true', decide_eq_false_iff_not, nod_lists, e_lenL, e_ixL, okE_lists, bs1, bs1L, bs2L, e_app, e_appL, e_app0, e_app0L, e_slcLo, e_slcHi, e_slcLH, e_slcHH, e_slcLHH, e_callG, e_callY, e_calmG, e_slS0, e_slSLo, e_slSHi, e_slSLH, e_slSHH, e_slSLHH, e_max2, e_min2, e_max3, e_x20, e_x21, e_x30, e_x31, e_x32, nod2_ints, nod2_lists, rep_fl, bs0, e_nilE, if_true, if_false, cond_true, cond_false, decide_true, decide_false, eq_self, Bool.false_eq_true, false_implies, true_implies, ap_own, ap_full, e_slcLoL, e_slcHiL, e_slcLHL, hp_assoc, hp_cons, hp_nil, hp_len, hp_len_cons, hp_len_nil, lv_cons, lv_nil, vs_0, vs_s, spl_s, spl_0, spl_n, dr_s, dr_0, tk_s, tk_0, e_bxI, e_fac, e_facA, e_ldcA, e_ldcL, e_ldcF, okE_agg, ck_I, ck_B, ck_ints, ck_lists, ck_arr, ck_ptr, ck_cptr, ck_fn, all_c, all_n, stV_agg, stV_lists, stV_arr, stV_ptr, stV_cptr, stV_fn, nodL_ints, nodL_lists, nodL_ptr, nodL_cptr, nodL_fn, nodL_arr0, cl_arr, cl_ptr, cl_cptr, cl_fn, cl_lists, okE_arr, okE_fn, okE_ptr, okE_cptr, e_bd0, e_bd1, e_wr, Nat.reduceAdd, Nat.reduceLeDiff, Nat.reduceEqDiff, Nat.add_zero, Bool.and_self, Bool.true_and, Bool.and_true, e_lc0, e_lA0, e_lM0, e_sc0, e_rc0, e_rA0, e_lI0, e_sI0, e_cI0, e_lc1, e_lA1, e_lM1, e_sc1, e_rc1, e_rA1, e_lI1, e_sI1, e_cI1, e_lc2, e_lA2, e_lM2, e_sc2, e_rc2, e_rA2, e_lI2, e_sI2, e_cI2, e_lc3, e_lA3, e_lM3, e_sc3, e_rc3, e_rA3, e_lI3, e_sI3, e_cI3, e_lc4, e_lA4, e_lM4, e_sc4, e_rc4, e_rA4, e_lI4, e_sI4, e_cI4, e_lc5, e_lA5, e_lM5, e_sc5, e_rc5, e_rA5, e_lI5, e_sI5, e_cI5, own0_arr, own0_ints, own0_lists, own0_imm, own0_ptr, own0_cptr, own0_fn, own0_agg, e_appB, e_appB0, ck_sl, own0_sl, stV_sl, nodL_sl, cl_sl, okE_sl, e_mkM, e_mkI, e_mkIm, e_callB, nod_bfn, nod_ifc, nod_map, nodL_ifc, nodL_bfn, nodL_map, cl_ifc, cl_bfn, ck_ifc, ck_bfn, ck_map, stV_ifc, okE_ifc, okE_bfn, nod_arr, nodL_arr, e_addU, e_mulU, e_shrK, e_shlK, e_andK, e_cv64, e_cv32, e_callEG, e_callEY, e_callEB, e_zr, e_nilSl, e_ncP, e_ncC, e_npnP, e_npeP, e_npnC, e_npeC, e_npnN, e_npeN, e_ixAP, e_ldcP, e_ldcS, e_ldcV, e_ldcT, okE_nilP, ck_nilP, okE_nilI, ck_nilI, okE_str, ck_str, e_tlen, e_tix, e_teq, e_tne, e_tadd, e_tb, e_u8lss, e_u8gtr, noV_full, nod_arr, List.length_map, reduceIte, Int.reduceEq, Int.reduceNeg, ne_eq, not_true_eq_false, not_false_eq_true, Bool.not_true, Bool.not_false, Bool.true_or, Bool.or_true, Bool.false_or, Bool.or_false, Bool.and_true, Bool.and_false, Bool.false_and, Bool.not_not, Bool.or_self, List.length_nil, Int.ofNat_zero, Int.cast_ofNat_Int, Int.natCast_zero, beq_self_eq_true, Bool.true_eq_false]; subst hK hQ) | refine Jr.go ?_) | refine sd ?_)
    exact end1 (fzI _)
  · repeat (first | (with_reducible first | refine Ju.go ?_ | (refine Hd.go ?_; intro K Q hK hQ; simp only [nod_imm, e_not, Bool.not_true, nod_cptr, Try.underlying29, e_ldcA, lv_cons, List.length_nil, Nat.zero_add, Nat.reduceAdd, nod_agg, List.map_cons, nodL_imm, List.map_nil, true_and, nodL_arr, nd_no, e_gF, cond_false]; subst hK hQ) | refine Jr.go ?_) | refine sd ?_)
    refine call_of (c22 s n t g k false _ sm) ?_
    cases ho : okAsk s n t g k
    · rw [rfE_no ho]
      repeat (first | (with_reducible first | refine Ju.go ?_ | (refine Hd.go ?_; intro K Q hK hQ; simp only [nod_imm, e_neq, Int.reduceEq, decide_false, Bool.not_false, List.getD_cons_succ, List.getD_cons_zero, e_cond, if_true]; subst hK hQ) | refine Jr.go ?_) | refine sd ?_)
      refine call_of (c15 _) ?_
      repeat (first | (with_reducible first | refine Ju.go ?_ | (refine Hd.go ?_; intro K Q hK hQ; simp only [Try.underlying3, Try.underlying4, Try.underlying5, Try.underlying9, Try.underlying29, Try.underlying57, Try.underlying55, j_one, j_side, j_tl, j_fl, nod_nod, nod_imm, nod_ints, nd_no, nd_own, nd_full, nd_fO, oF_ap, oF_succ, nod_sl, nod_ptr, nod_cptr, nod_fn, nod_junk, nodL_imm, nod_agg, nod_tup, nod2_imm, nod2_agg, cl_imm, cl_ints, cl_agg, e_add, e_sub, e_mul, e_quo, e_rem, e_eql, e_neq, e_lss, e_leq, e_gtr, e_geq, e_beq, e_bne, e_neg, e_not, e_pick, e_cond, e_gT, e_gF, e_len, e_lenA, e_lenS, e_ix, e_ixS, e_ldc, e_ldci, e_fa, rep_cl, rep_I, e_bx, okE_I, okE_B, okE_E8, okE_ints, stV_imm, stV_ints, j_and', j_or', List.getD_cons_zero, List.getD_cons_succ, List.map_cons, List.map_nil, decide_eq_true_eq, Int.toNat_natCast, Nat.mul_one, Nat.zero_add, true_and, and_true, List.length_map, Bool.not_eq_true', decide_eq_false_iff_not, nod_lists, e_lenL, e_ixL, okE_lists, bs1, bs1L, bs2L, e_app, e_appL, e_app0, e_app0L, e_slcLo, e_slcHi, e_slcLH, e_slcHH, e_slcLHH, e_callG, e_callY, e_calmG, e_slS0, e_slSLo, e_slSHi, e_slSLH, e_slSHH, e_slSLHH, e_max2, e_min2, e_max3, e_x20, e_x21, e_x30, e_x31, e_x32, nod2_ints, nod2_lists, rep_fl, bs0, e_nilE, if_true, if_false, cond_true, cond_false, decide_true, decide_false, eq_self, Bool.false_eq_true, false_implies, true_implies, ap_own, ap_full, e_slcLoL, e_slcHiL, e_slcLHL, hp_assoc, hp_cons, hp_nil, hp_len, hp_len_cons, hp_len_nil, lv_cons, lv_nil, vs_0, vs_s, spl_s, spl_0, spl_n, dr_s, dr_0, tk_s, tk_0, e_bxI, e_fac, e_facA, e_ldcA, e_ldcL, e_ldcF, okE_agg, ck_I, ck_B, ck_ints, ck_lists, ck_arr, ck_ptr, ck_cptr, ck_fn, all_c, all_n, stV_agg, stV_lists, stV_arr, stV_ptr, stV_cptr, stV_fn, nodL_ints, nodL_lists, nodL_ptr, nodL_cptr, nodL_fn, nodL_arr0, cl_arr, cl_ptr, cl_cptr, cl_fn, cl_lists, okE_arr, okE_fn, okE_ptr, okE_cptr, e_bd0, e_bd1, e_wr, Nat.reduceAdd, Nat.reduceLeDiff, Nat.reduceEqDiff, Nat.add_zero, Bool.and_self, Bool.true_and, Bool.and_true, e_lc0, e_lA0, e_lM0, e_sc0, e_rc0, e_rA0, e_lI0, e_sI0, e_cI0, e_lc1, e_lA1, e_lM1, e_sc1, e_rc1, e_rA1, e_lI1, e_sI1, e_cI1, e_lc2, e_lA2, e_lM2, e_sc2, e_rc2, e_rA2, e_lI2, e_sI2, e_cI2, e_lc3, e_lA3, e_lM3, e_sc3, e_rc3, e_rA3, e_lI3, e_sI3, e_cI3, e_lc4, e_lA4, e_lM4, e_sc4, e_rc4, e_rA4, e_lI4, e_sI4, e_cI4, e_lc5, e_lA5, e_lM5, e_sc5, e_rc5, e_rA5, e_lI5, e_sI5, e_cI5, own0_arr, own0_ints, own0_lists, own0_imm, own0_ptr, own0_cptr, own0_fn, own0_agg, e_appB, e_appB0, ck_sl, own0_sl, stV_sl, nodL_sl, cl_sl, okE_sl, e_mkM, e_mkI, e_mkIm, e_callB, nod_bfn, nod_ifc, nod_map, nodL_ifc, nodL_bfn, nodL_map, cl_ifc, cl_bfn, ck_ifc, ck_bfn, ck_map, stV_ifc, okE_ifc, okE_bfn, nod_arr, nodL_arr, e_addU, e_mulU, e_shrK, e_shlK, e_andK, e_cv64, e_cv32, e_callEG, e_callEY, e_callEB, e_zr, e_nilSl, e_ncP, e_ncC, e_npnP, e_npeP, e_npnC, e_npeC, e_npnN, e_npeN, e_ixAP, e_ldcP, e_ldcS, e_ldcV, e_ldcT, okE_nilP, ck_nilP, okE_nilI, ck_nilI, okE_str, ck_str, e_tlen, e_tix, e_teq, e_tne, e_tadd, e_tb, e_u8lss, e_u8gtr, noV_full, nod_arr, List.length_map, reduceIte, Int.reduceEq, Int.reduceNeg, ne_eq, not_true_eq_false, not_false_eq_true, Bool.not_true, Bool.not_false, Bool.true_or, Bool.or_true, Bool.false_or, Bool.or_false, Bool.and_true, Bool.and_false, Bool.false_and, Bool.not_not, Bool.or_self, List.length_nil, Int.ofNat_zero, Int.cast_ofNat_Int, Int.natCast_zero, beq_self_eq_true, Bool.true_eq_false]; subst hK hQ) | refine Jr.go ?_) | refine sd ?_)
      exact end1 (fzI _)
    · rw [rfE_ok ho]
      repeat (first | (with_reducible first | refine Ju.go ?_ | (refine Hd.go ?_; intro K Q hK hQ; simp only [nod_imm, e_neq, decide_true, Bool.not_true, List.getD_cons_succ, List.getD_cons_zero, e_cond, Bool.false_eq_true, if_false, nod_cptr, e_ldcA, lv_cons, List.length_nil, Nat.zero_add, Nat.reduceAdd, true_and, nod_agg, List.map_cons, nodL_imm, nodL_arr, nd_no, List.map_nil]; subst hK hQ) | refine Jr.go ?_) | refine sd ?_)
      refine call_of (c21 s n t g k _ sm) ?_
      rw [spE_ok ho, spL_ok ho]
      cases hg : (saW s n t g k).all gdW
      · rw [if_neg (by decide)]
        repeat (first | (with_reducible first | refine Ju.go ?_ | (refine Hd.go ?_; intro K Q hK hQ; simp only [nod_tup, List.map_cons, nod2_imm, List.map_nil, e_x20, e_x21, nod_imm, Try.underlying29, e_neq, Int.reduceEq, decide_false, Bool.not_false, List.getD_cons_zero, List.getD_cons_succ, e_cond, if_true, e_eql, decide_true, e_gT, cond_true]; subst hK hQ) | refine Jr.go ?_) | refine sd ?_)
        refine call_of (c15 _) ?_
        repeat (first | (with_reducible first | refine Ju.go ?_ | (refine Hd.go ?_; intro K Q hK hQ; simp only [nod_imm]; subst hK hQ) | refine Jr.go ?_) | refine sd ?_)
        exact end1 (fzI _)
      · rw [if_pos rfl, trW_all hg]
        obtain ⟨o1, o2, o3, o4, o5, o6, o7, o8, o9, o10⟩ := okAsk_parts ho
        have ru := ruOk sm o1 o2 o5 o6
        have hb0 := ru_b0 o1 o2 o5 o6
        have a1 := ru.i0
        have a2 := ru.i1
        have a5 := ru.pl
        have hl8 : (saW s n t g k).length ≤ 800 := by have := trW_len sm ho; rw [trW_all hg] at this; exact this
        have hrl := ru.len
        have hk2 : ∀ p, p ∈ (ruOf s n t).p → p.k = 2 → 0 ≤ p.t ∧ p.t < s.te.length := fun p hp hk => (okPi_k (ru.p p hp)).2.1 (.inr (.inl hk))
        have hcg := cnt_gen (r := ruOf s n t) (g := g) o1 o7 o8 hk2
        have eR : (s.se.getD t.toNat []).getD (ruI (s.se.getD t.toNat []) n).toNat default = ruOf s n t := rfl
        repeat (first | (with_reducible first | refine Ju.go ?_ | (refine Hd.go ?_; intro K Q hK hQ; simp only [nod_tup, List.map_cons, nod2_imm, List.map_nil, e_x20, e_x21, nod_imm, Try.underlying29, e_neq, decide_true, Bool.not_true, List.getD_cons_zero, List.getD_cons_succ, e_cond, Bool.false_eq_true, if_false, nod_cptr, e_fac, Nat.reduceAdd, lv_cons, List.length_nil, Nat.zero_add, Nat.reduceLeDiff, true_and, e_ldcV, e_ldc, nod_arr, nd_no, ix_se, o5, o6]; subst hK hQ) | refine Jr.go ?_) | refine sd ?_)
        refine calm_of (fun H => c26 _ n H ru.ne hb0 (by omega)) ?_
        repeat (first | (with_reducible first | refine Ju.go ?_ | (refine Hd.go ?_; intro K Q hK hQ; simp only [nod_arr, nd_no, nod_imm, ix_nu, a1, a2, eR, true_and, nod_cptr, e_ldcA, lv_cons, List.length_nil, Nat.zero_add, Nat.reduceAdd, e_bx, okE_agg, all_c, ck_I, ck_arr, all_n, Bool.and_self, and_true, cl_agg, nod_ptr, e_sc0, Nat.reduceLeDiff, stV_agg, List.map_cons, nodL_imm, nodL_arr, List.map_nil, spl_0, spl_n, List.getD_cons_zero, List.getD_cons_succ]; subst hK hQ) | refine Jr.go ?_) | refine sd ?_)
        have eW : saW s n t g k = fmP (pcsF n.toNat s n t g k 0) (ruOf s n t).p.length := rfl
        have hdir := fun i hi h => pcs_dir (s := s) (f := n.toNat) (n := n) (t := t) (g := g) (k := k) (d := 0) (i := i) ru hi h
        have hrec := fun i hi h => pcs_rec (s := s) (f := n.toNat) (n := n) (t := t) (g := g) (k := k) (d := 0) (i := i) sm o1 ru o2 hi h
        have hcd := fun (j : Nat) h => cgD_s s (ruOf s n t) g (j := j) h
        have hc0 := cgD_0 s (ruOf s n t) g
        have hce := cgD_end s (ruOf s n t) g (j := (ruOf s n t).p.length) (Nat.le_refl _)
        have hrcI : ∀ p, isRc s n t p = (p.k = 3 ∨ (p.k = 4 ∧ n.tmod (ruOf s n t).d ≠ 0)) := fun _ => rfl
        have hpk := ru.p
        have hdv := fun h => ru_div ru o2 h
        clear hb0 a1 a2 eR
        clear ru
        generalize ruOf s n t = r at *
        generalize hpcs : pcsF n.toNat s n t g k 0 = pcs at *
        clear hpcs
        generalize saW s n t g k = W at *
        have hdepth : ∀ i, i < r.p.length → isRc s n t (r.p.getD i default) → ∀ w, w ∈ pcs i → 1 ≤ w.d := fun i hi h w hw => by
          obtain ⟨m, g1, -, -, e, m0, m1, s0, s1, -⟩ := hrec i hi h
          rw [e] at hw
          exact say_deep sm o1 _ _ _ _ _ _ m0 s0 s1 w hw
        have hat : ∀ i j w, i < r.p.length → j < r.p.length → w ∈ pcs j → (w.d = 0 ∧ w.p = i ↔ (¬ isRc s n t (r.p.getD j default) ∧ j = i)) := fun i j w hi hj hw => by
          by_cases h : isRc s n t (r.p.getD j default)
          · have := hdepth j hj h w hw
            constructor
            · intro h'; omega
            · intro h'; exact absurd h h'.1
          · rcases hdir j hj h with e | ⟨w', e, e1, e2⟩
            · rw [e] at hw; cases hw
            · rw [e, List.mem_singleton] at hw
              subst hw
              constructor
              · intro h'; exact ⟨h, by omega⟩
              · intro h'; exact ⟨e1, by rw [e2, h'.2]⟩
        refine loop_of (fun z : Nat × Hp => z.1 ≤ r.p.length) (fun z => [.cptr (syV s), .cptr (asV n t g k), sds W .no, .ptr H.length 0, I ((fmP pcs z.1).length : Nat), I z.1]) (fun z => H ++ (.cells [I r.b, I r.d, .arr (r.p.map piV) .no] :: z.2)) (fun z => r.p.length - z.1) (0, []) (Nat.zero_le _) rfl rfl ?_
        intro ⟨i, X⟩ hi
        dsimp only at hi ⊢
        have hH0 : ∀ L, (H ++ (.cells [I r.b, I r.d, .arr (r.p.map piV) .no] :: X) ++ L)[H.length]? = some (.cells [I r.b, I r.d, .arr (r.p.map piV) .no]) := fun L => by
          rw [List.append_assoc, List.getElem?_append_right (Nat.le_refl _), Nat.sub_self]; rfl
        have hH00 : (H ++ (.cells [I r.b, I r.d, .arr (r.p.map piV) .no] :: X))[H.length]? = some (.cells [I r.b, I r.d, .arr (r.p.map piV) .no]) := by
          have := hH0 []; rw [List.append_nil] at this; exact this
        have hZe : ∃ Y, H ++ (.cells [I r.b, I r.d, .arr (r.p.map piV) .no] :: X) = H ++ Y := ⟨_, rfl⟩
        have hZn : ∀ c, H ++ (.cells [I r.b, I r.d, .arr (r.p.map piV) .no] :: X) ++ [c] = H ++ (.cells [I r.b, I r.d, .arr (r.p.map piV) .no] :: (X ++ [c])) := fun c => by rw [List.append_assoc, List.cons_append]
        generalize H ++ (.cells [I r.b, I r.d, .arr (r.p.map piV) .no] :: X) = Z at *
        have hfl := fm_len pcs hi
        rw [← eW] at hfl
        by_cases hlt : i < r.p.length
        · have di : (i : Int) < r.p.length := by omega
          have hpm := hpk _ (getD_memA r.p default hlt)
          have hdi := hdir i hlt
          have hri := hrec i hlt
          have hati := fun j w => hat i j w hlt
          have hRi := hrcI (r.p.getD i default)
          have hf1 := fm_len1 pcs hlt
          rw [← eW] at hf1
          have hfs := fm_s pcs i
          repeat (first | (with_reducible first | refine Ju.go ?_ | (refine Hd.go ?_; intro K Q hK hQ; simp only [List.getD_cons_succ, List.getD_cons_zero, nod_ptr, e_fa, Nat.zero_add, ld_at hH00, Nat.reduceAdd, lv_cons, List.length_nil, Nat.reduceLeDiff, nod_arr, nd_no, true_and, e_lenA, List.length_map, nod_imm, Try.underlying3, e_lss, di, decide_true, e_cond, if_true, ix_pi, Int.toNat_natCast, nod_cptr, e_ldcA, nod_agg, List.map_cons, nodL_imm, List.map_nil, e_bxI, okE_agg, all_c, ck_I, all_n, Bool.and_self, and_true, e_bx, cl_agg, e_sc0, stV_agg, spl_0, spl_n, e_fac, e_ldc, stV_imm, okE_I, cl_imm, spl_s, Nat.add_zero, Int.reduceNeg, Try.underlying57, e_eql, decide_eq_true_eq]; subst hK hQ) | refine Jr.go ?_) | refine sd ?_)
          generalize hpp : r.p.getD i default = p at *
          obtain ⟨hk, hpt, hps, hdz⟩ := okPi_k hpm
          have k40 : ∀ c : Blk, ∃ z : Nat × Hp, z.1 ≤ r.p.length ∧ [V.cptr (syV s), .cptr (asV n t g k), sds W .no, .ptr H.length 0, I ((fmP pcs z.1).length : Nat), I z.1] = [V.cptr (syV s), .cptr (asV n t g k), sds W .no, .ptr H.length 0, I ((fmP pcs (i + 1)).length : Nat), I ((i : Int) + 1)] ∧ H ++ (.cells [I r.b, I r.d, .arr (r.p.map piV) .no] :: z.2) = Z ++ [c] ∧ r.p.length - z.1 < r.p.length - i := fun c =>
            ⟨(i + 1, X ++ [c]), by dsimp only; omega, rfl, (hZn c).symm, by dsimp only; omega⟩
          generalize hR62 : Rn _ = R62
          have kX : ∀ m0 g1 : Int, (p.k = 3 ∧ m0 = n.tdiv r.d ∧ g1 = cntG s r g) ∨ (p.k ≠ 3 ∧ m0 = -1 ∧ g1 = g) → R62 [.cptr (syV s), .cptr (asV n t g k), sds W .no, .ptr H.length 0, I ((fmP pcs i).length : Nat), I i, .cptr (piV p), .ptr Z.length 0] (Z ++ [.cells [I m0, I p.s, I g1, I k]]) := by
            intro m0 g1 hm0
            rw [← hR62]
            refine rn_go ?_
            refine jn_go ?_
            generalize hR65 : Rn _ = R65
            have kD : ¬ isRc s n t p → R65 [.cptr (syV s), .cptr (asV n t g k), sds W .no, .ptr H.length 0, I ((fmP pcs i).length : Nat), I i, .ptr Z.length 0] (Z ++ [.cells [I (-1), I p.s, I g, I k]]) := by
              intro hnr
              rw [← hR65]
              refine rn_go ?_
              have nm1 : (-1 : Int) < 0 := by decide
              repeat (first | (with_reducible first | refine Ju.go ?_ | (refine Hd.go ?_; intro K Q hK hQ; simp only [List.getD_cons_succ, List.getD_cons_zero, nod_ptr, e_fa, Nat.add_zero, Int.reduceNeg, e_lc0, Nat.zero_add, lv_cons, List.length_nil, Nat.reduceAdd, Nat.reduceLeDiff, nod_imm, true_and, Try.underlying3, e_lss, nm1, decide_true, e_cond, if_true]; subst hK hQ) | refine Jr.go ?_) | refine sd ?_)
              refine loop_of (fun a : Nat => (fmP pcs i).length ≤ a ∧ a ≤ (fmP pcs (i + 1)).length) (fun a => [.cptr (syV s), .cptr (asV n t g k), sds W .no, .ptr H.length 0, I a, I i]) (fun _ => Z ++ [.cells [I (-1), I p.s, I g, I k]]) (fun a => (fmP pcs (i + 1)).length - a) (fmP pcs i).length ⟨Nat.le_refl _, by rw [hfs, List.length_append]; omega⟩ rfl rfl ?_
              intro a ⟨ha0, ha1⟩
              rw [hfs, List.length_append] at ha1
              by_cases haW : a < W.length
              · have da : (a : Int) < W.length := by omega
                by_cases hin : a < (fmP pcs i).length + (pcs i).length
                · have hw : W.getD a default ∈ pcs i := by
                    have := fm_in pcs default hlt (k := a - (fmP pcs i).length) (by omega)
                    rw [← eW, Nat.add_sub_cancel' ha0] at this
                    rw [this]
                    exact getD_memA _ _ (by omega)
                  obtain ⟨w1, w2⟩ := (hati i _ hlt hw).2 ⟨by rw [hpp]; exact hnr, rfl⟩
                  repeat (first | (with_reducible first | refine Ju.go ?_ | (refine Hd.go ?_; intro K Q hK hQ; simp only [List.getD_cons_succ, List.getD_cons_zero, nod_arr, nd_no, e_lenA, List.length_map, nod_imm, Try.underlying3, e_lss, da, decide_true, Int.reduceNeg, ix_sd, Int.toNat_natCast, nod_cptr, e_fac, Nat.reduceAdd, w2, w1, lv_cons, List.length_nil, Nat.zero_add, Nat.reduceLeDiff, e_ldc, e_eql, true_and, e_gT, cond_true, j_side, j_one, e_cond, if_true, e_add]; subst hK hQ) | refine Jr.go ?_) | refine sd ?_)
                  exact ⟨a + 1, ⟨by omega, by rw [hfs, List.length_append]; omega⟩, rfl, rfl, by rw [hfs, List.length_append]; omega⟩
                · obtain ⟨j, j1, j2, j3⟩ := fm_at pcs default (i := i + 1) (m := r.p.length) (a := a) (by rw [hfs, List.length_append]; omega) (by rw [← eW]; exact haW)
                  rw [← eW] at j3
                  have hno : ¬ ((W.getD a default).d = 0 ∧ (W.getD a default).p = i) := fun h => by
                    have := ((hati j _ j2 j3).1 h).2
                    omega
                  have ha : a = (fmP pcs (i + 1)).length := by rw [hfs, List.length_append]; omega
                  subst ha
                  by_cases w1 : (W.getD (fmP pcs (i + 1)).length default).d = 0
                  · have w2 : ¬ (W.getD (fmP pcs (i + 1)).length default).p = i := fun h => hno ⟨w1, h⟩
                    repeat (first | (with_reducible first | refine Ju.go ?_ | (refine Hd.go ?_; intro K Q hK hQ; simp only [List.getD_cons_succ, List.getD_cons_zero, nod_arr, nd_no, e_lenA, List.length_map, nod_imm, Try.underlying3, e_lss, da, decide_true, Int.reduceNeg, ix_sd, Int.toNat_natCast, nod_cptr, e_fac, Nat.reduceAdd, w1, lv_cons, List.length_nil, Nat.zero_add, Nat.reduceLeDiff, e_ldc, e_eql, true_and, e_gT, cond_true, j_side, j_one, w2, decide_false, e_cond, Bool.false_eq_true, if_false, e_add]; subst hK hQ) | refine Jr.go ?_) | refine sd ?_)
                    exact k40 _
                  · repeat (first | (with_reducible first | refine Ju.go ?_ | (refine Hd.go ?_; intro K Q hK hQ; simp only [List.getD_cons_succ, List.getD_cons_zero, nod_arr, nd_no, e_lenA, List.length_map, nod_imm, Try.underlying3, e_lss, da, decide_true, Int.reduceNeg, ix_sd, Int.toNat_natCast, nod_cptr, e_fac, Nat.reduceAdd, lv_cons, List.length_nil, Nat.zero_add, Nat.reduceLeDiff, e_ldc, e_eql, w1, decide_false, true_and, e_gT, cond_true, j_side, j_one, cond_false, e_cond, Bool.false_eq_true, if_false, e_add]; subst hK hQ) | refine Jr.go ?_) | refine sd ?_)
                    exact k40 _
              · have da : ¬ (a : Int) < W.length := by omega
                have ha : a = (fmP pcs (i + 1)).length := by rw [hfs, List.length_append]; omega
                subst ha
                repeat (first | (with_reducible first | refine Ju.go ?_ | (refine Hd.go ?_; intro K Q hK hQ; simp only [List.getD_cons_succ, List.getD_cons_zero, nod_arr, nd_no, e_lenA, List.length_map, nod_imm, Try.underlying3, e_lss, da, decide_false, Int.reduceNeg, e_gT, cond_false, j_one, e_cond, Bool.false_eq_true, if_false, e_add]; subst hK hQ) | refine Jr.go ?_) | refine sd ?_)
                exact k40 _
            have kR : isRc s n t p → ∀ m g2, (p.k = 3 → m = n.tdiv r.d ∧ g2 = cntG s r g) → (p.k = 4 → m = n.tmod r.d ∧ g2 = g) → R65 [.cptr (syV s), .cptr (asV n t g k), sds W .no, .ptr H.length 0, I ((fmP pcs i).length : Nat), I i, .ptr Z.length 0] (Z ++ [.cells [I m, I p.s, I g2, I k]]) := by
              intro hr m g2 hm3 hm4
              obtain ⟨m', g', b1, b2, e, m0, m1, s0, s1, z⟩ := hri hr
              have hmm : m' = m ∧ g' = g2 := by
                rw [hRi] at hr
                rcases hr with h | ⟨h, -⟩
                · have := b1 h; have := hm3 h; omega
                · have := b2 h; have := hm4 h; omega
              obtain ⟨rfl, rfl⟩ := hmm
              have hg2 : 0 ≤ g' ∧ g' < s.gen := by
                rw [hRi] at hr
                rcases hr with h | ⟨h, -⟩
                · rw [(b1 h).2]; exact hcg
                · rw [(b2 h).2]; exact ⟨o7, o8⟩
              have hoA := okAsk_of (n := m') (t := p.s) (g := g') (k := k) o1 m0 (by omega) s0 s1 hg2.1 hg2.2 o9 o10
              have htx : (saW s m' p.s g' k).map Sd.x = (pcs i).map Sd.x := by
                rw [e]
                exact say_tx sm o1 _ _ _ _ _ _ _ _ (by omega) (by omega) m0 s0 s1
              have hgi : (pcs i).all gdW = true := by
                cases h : (pcs i).all gdW
                · have := fm_bad hlt h
                  rw [← eW, hg] at this
                  cases this
                · rfl
              have hgm : (saW s m' p.s g' k).all gdW = true := by rw [gdW_x _ _ htx]; exact hgi
              have hlen : (saW s m' p.s g' k).length = (pcs i).length := by have := congrArg List.length htx; rw [List.length_map, List.length_map] at this; exact this
              rw [← hR65]
              refine rn_go ?_
              have m0' : ¬ m' < 0 := by omega
              repeat (first | (with_reducible first | refine Ju.go ?_ | (refine Hd.go ?_; intro K Q hK hQ; simp only [List.getD_cons_succ, List.getD_cons_zero, nod_ptr, e_fa, Nat.add_zero, e_lc0, Nat.zero_add, lv_cons, List.length_nil, Nat.reduceAdd, Nat.reduceLeDiff, nod_imm, true_and, Try.underlying3, e_lss, m0', decide_false, e_cond, Bool.false_eq_true, if_false, nod_cptr, e_ldcA, e_lA0, dr_0, tk_s, tk_0, nod_agg, List.map_cons, nodL_imm, List.map_nil, nodL_arr, nd_no]; subst hK hQ) | refine Jr.go ?_) | refine sd ?_)
              refine call_of (c20 s m' p.s g' k _ sm) ?_
              rw [spE_ok hoA, spL_ok hoA, if_pos hgm, trW_all hgm, tx_tb, htx]
              have hnl : ¬ (W.length : Int) < ((fmP pcs i).length : Nat) + ((pcs i).length : Nat) := by omega
              have hll : (((pcs i).map Sd.x).length : Int) = ((pcs i).length : Nat) := by rw [List.length_map]
              repeat (first | (with_reducible first | refine Ju.go ?_ | (refine Hd.go ?_; intro K Q hK hQ; simp only [nod_tup, List.map_cons, nod2_arr, nd_no, nod2_imm, List.map_nil, e_x20, e_x21, nod_imm, Try.underlying29, e_neq, decide_true, Bool.not_true, nod_arr, List.getD_cons_succ, List.getD_cons_zero, Try.underlying3, e_lenA, List.length_map, e_add, e_gtr, hnl, decide_false, e_gF, cond_false, j_side, j_one, e_cond, Bool.false_eq_true, if_false]; subst hK hQ) | refine Jr.go ?_) | refine sd ?_)
              refine loop_of (fun q : Nat => q ≤ (pcs i).length) (fun q => [.cptr (syV s), .cptr (asV n t g k), sds W .no, .ptr H.length 0, I ((fmP pcs i).length : Nat), I i, .arr (((pcs i).map Sd.x).map tb) .no, I q]) (fun _ => Z ++ [.cells [I m', I p.s, I g', I k]]) (fun q => (pcs i).length - q) 0 (Nat.zero_le _) rfl rfl ?_
              intro q hq
              by_cases hql : q < (pcs i).length
              · have dq : (q : Int) < ((pcs i).length : Nat) := by omega
                have ew : W.getD ((fmP pcs i).length + q) default = (pcs i).getD q default := by rw [eW]; exact fm_in pcs default hlt hql
                have ex : ((pcs i).map Sd.x).getD q default = ((pcs i).getD q default).x := by
                  rw [List.getD_eq_getElem?_getD, List.getD_eq_getElem?_getD, List.getElem?_map, List.getElem?_eq_getElem hql]; rfl
                have hdd := hdepth i hlt (by rw [hpp]; exact hr) _ (getD_memA (pcs i) default hql)
                have et : (((fmP pcs i).length : Nat) + (q : Int)).toNat = (fmP pcs i).length + q := by omega
                have d1 : ((fmP pcs i).length : Int) + (q : Int) < W.length := by omega
                have d2 : ¬ ((pcs i).getD q default).d < 1 := by omega
                have d0 : (0 : Int) ≤ ((fmP pcs i).length : Int) + (q : Int) := by omega
                have r1 : R64 (((fmP pcs i).length : Int) + (q : Int)) := by unfold R64; omega
                repeat (first | (with_reducible first | refine Ju.go ?_ | (refine Hd.go ?_; intro K Q hK hQ; simp only [List.getD_cons_succ, List.getD_cons_zero, nod_arr, nd_no, e_lenA, List.length_map, nod_imm, Try.underlying3, e_lss, dq, decide_true, e_cond, if_true, e_add, r1, true_and, ix_sd, d0, d1, et, ew, nod_cptr, e_fac, Nat.zero_add, lv_cons, List.length_nil, Nat.reduceAdd, Nat.reduceLeDiff, e_ldc, ix_tb, Int.toNat_natCast, ex, Try.underlying9, e_tne, Bool.not_true, d2, decide_false, e_gF, cond_false, j_one, Bool.false_eq_true, if_false]; subst hK hQ) | refine Jr.go ?_) | refine sd ?_)
                exact ⟨q + 1, by omega, rfl, rfl, by omega⟩
              · have dq : ¬ (q : Int) < ((pcs i).length : Nat) := by omega
                have ee : ((fmP pcs i).length : Int) + ((pcs i).length : Nat) = ((fmP pcs (i + 1)).length : Nat) := by rw [hfs, List.length_append]; omega
                repeat (first | (with_reducible first | refine Ju.go ?_ | (refine Hd.go ?_; intro K Q hK hQ; simp only [List.getD_cons_succ, List.getD_cons_zero, nod_arr, nd_no, e_lenA, List.length_map, nod_imm, Try.underlying3, e_lss, dq, decide_false, e_cond, Bool.false_eq_true, if_false, e_add, ee]; subst hK hQ) | refine Jr.go ?_) | refine sd ?_)
                exact k40 _
            clear hR65 hR62
            by_cases k4 : p.k = 4
            · have k3 : p.k ≠ 3 := by omega
              obtain ⟨-, rfl, rfl⟩ := hm0.resolve_left (fun h => k3 h.1)
              have z : r.d ≠ 0 := fun h => by have := hdz (by omega); rw [h] at this; cases this
              obtain ⟨d1, d2, d3, d4, d5⟩ := hdv z
              have hH1 := hH0 [.cells [I (-1), I p.s, I g1, I k]]
              by_cases he : n.tmod r.d = 0
              · have he' : ¬ (0 : Int) < n.tmod r.d := by omega
                repeat (first | (with_reducible first | refine Ju.go ?_ | (refine Hd.go ?_; intro K Q hK hQ; simp only [List.getD_cons_succ, List.getD_cons_zero, nod_cptr, e_fac, Nat.zero_add, k4, lv_cons, List.length_nil, Nat.reduceAdd, Nat.reduceLeDiff, true_and, Int.reduceNeg, e_ldc, nod_imm, Try.underlying57, e_eql, decide_true, nod_ptr, Try.underlying3, e_fa, ld_at hH1, e_rem, ne_eq, z, not_false_eq_true, e_gtr, he', decide_false, e_gT, cond_true, j_one, e_cond, Bool.false_eq_true, if_false]; subst hK hQ) | refine Jr.go ?_) | refine sd ?_)
                exact kD (by rw [hRi]; intro h; rcases h with h | h; exact k3 h; exact h.2 he)
              · have he' : (0 : Int) < n.tmod r.d := by omega
                repeat (first | (with_reducible first | refine Ju.go ?_ | (refine Hd.go ?_; intro K Q hK hQ; simp only [List.getD_cons_succ, List.getD_cons_zero, nod_cptr, e_fac, Nat.zero_add, k4, lv_cons, List.length_nil, Nat.reduceAdd, Nat.reduceLeDiff, true_and, Int.reduceNeg, e_ldc, nod_imm, Try.underlying57, e_eql, decide_true, nod_ptr, Try.underlying3, e_fa, ld_at hH1, e_rem, ne_eq, z, not_false_eq_true, e_gtr, he', e_gT, cond_true, j_one, e_cond, if_true, Nat.add_zero, e_sc0, stV_imm, okE_I, cl_imm, spl_0, spl_n]; subst hK hQ) | refine Jr.go ?_) | refine sd ?_)
                exact kR (by rw [hRi]; exact .inr ⟨k4, he⟩) _ _ (fun h => absurd h k3) (fun _ => ⟨rfl, rfl⟩)
            · by_cases k3 : p.k = 3
              · obtain ⟨-, rfl, rfl⟩ := hm0.resolve_right (fun h => h.1 k3)
                repeat (first | (with_reducible first | refine Ju.go ?_ | (refine Hd.go ?_; intro K Q hK hQ; simp only [List.getD_cons_succ, List.getD_cons_zero, nod_cptr, e_fac, Nat.zero_add, k3, lv_cons, List.length_nil, Nat.reduceAdd, Nat.reduceLeDiff, true_and, e_ldc, nod_imm, Try.underlying57, e_eql, Int.reduceEq, decide_false, nod_ptr, Try.underlying3, e_fa, e_gT, cond_false, j_one, e_cond, Bool.false_eq_true, if_false]; subst hK hQ) | refine Jr.go ?_) | refine sd ?_)
                exact kR (by rw [hRi]; exact .inl k3) _ _ (fun _ => ⟨rfl, rfl⟩) (fun h => absurd h k4)
              · obtain ⟨-, rfl, rfl⟩ := hm0.resolve_left (fun h => k3 h.1)
                repeat (first | (with_reducible first | refine Ju.go ?_ | (refine Hd.go ?_; intro K Q hK hQ; simp only [List.getD_cons_succ, List.getD_cons_zero, nod_cptr, e_fac, Nat.zero_add, lv_cons, List.length_nil, Nat.reduceAdd, Nat.reduceLeDiff, true_and, Int.reduceNeg, e_ldc, nod_imm, Try.underlying57, e_eql, k4, decide_false, nod_ptr, Try.underlying3, e_fa, e_gT, cond_false, j_one, e_cond, Bool.false_eq_true, if_false]; subst hK hQ) | refine Jr.go ?_) | refine sd ?_)
                exact kD (by rw [hRi]; intro h; rcases h with h | h; exact k3 h; exact k4 h.1)
          clear hR62
          by_cases k3 : p.k = 3
          · have z : r.d ≠ 0 := fun h => by have := hdz (by omega); rw [h] at this; cases this
            obtain ⟨d1, d2, d3, d4, d5⟩ := hdv z
            have r1 : R64 (n.tdiv r.d) := by unfold R64; omega
            have hH1 := fun c => hH0 [c]
            have hpl' : ((r.p.length : Int) - 1).toNat = r.p.length - 1 := by omega
            have k3' := eq_true k3
            have hH2 := hH1 (.cells [I (n.tdiv r.d), I p.s, I g, I k])
            repeat (first | (with_reducible first | refine Ju.go ?_ | (refine Hd.go ?_; intro K Q hK hQ; simp only [k3', if_true, decide_true, List.getD_cons_succ, List.getD_cons_zero, nod_cptr, e_fac, Nat.zero_add, lv_cons, List.length_nil, Nat.reduceAdd, Nat.reduceLeDiff, true_and, Int.reduceNeg, e_ldc, nod_ptr, e_fa, ld_at (hH1 _), nod_imm, Try.underlying3, e_quo, ne_eq, z, not_false_eq_true, r1, Nat.add_zero, e_sc0, stV_imm, okE_I, cl_imm, spl_0, spl_n, ld_at hH2, nod_arr, nd_no, e_lenA, List.length_map, e_sub]; subst hK hQ) | refine Jr.go ?_) | refine sd ?_)
            refine loop_of (fun j : Nat => j ≤ r.p.length) (fun j => [.cptr (syV s), .cptr (asV n t g k), sds W .no, .ptr H.length 0, I ((fmP pcs i).length : Nat), I i, .cptr (piV p), .ptr Z.length 0, I ((j : Int) - 1)]) (fun j => Z ++ [.cells [I (n.tdiv r.d), I p.s, I (cgD s r g j), I k]]) (fun j => j) r.p.length (Nat.le_refl _) rfl (by rw [hce]) ?_
            intro j hj
            by_cases hj0 : 0 < j
            · obtain ⟨j, rfl⟩ : ∃ j', j = j' + 1 := ⟨j - 1, by omega⟩
              have ej : ((j + 1 : Nat) : Int) - 1 = j := by omega
              have hjl : j < r.p.length := by omega
              have dj0 : (0 : Int) ≤ (j : Int) := by omega
              have dj : (j : Int) < r.p.length := by omega
              have hcj := hcd j hjl
              have hHj := hH1 (.cells [I (n.tdiv r.d), I p.s, I (cgD s r g (j + 1)), I k])
              have hkj := hk2 _ (getD_memA r.p default hjl)
              by_cases hq : (r.p.getD j default).k = 2
              · obtain ⟨t0, t1⟩ := hkj hq
                rw [if_pos hq] at hcj
                repeat (first | (with_reducible first | refine Ju.go ?_ | (refine Hd.go ?_; intro K Q hK hQ; simp only [ej, List.getD_cons_succ, List.getD_cons_zero, nod_imm, Try.underlying3, e_geq, dj0, decide_true, e_cond, if_true, nod_ptr, e_fa, Nat.zero_add, ld_at hHj, Nat.reduceAdd, lv_cons, List.length_nil, Nat.reduceLeDiff, nod_arr, nd_no, true_and, ix_pi, dj, Int.toNat_natCast, nod_cptr, e_fac, hq, e_ldc, Try.underlying57, e_eql, e_ldcV, ix_te, t0, t1, e_sc0, stV_imm, okE_I, cl_imm, spl_s, spl_0, spl_n, e_sub]; subst hK hQ) | refine Jr.go ?_) | refine sd ?_)
                exact ⟨j, by omega, rfl, by rw [hcj], by omega⟩
              · rw [if_neg hq] at hcj
                repeat (first | (with_reducible first | refine Ju.go ?_ | (refine Hd.go ?_; intro K Q hK hQ; simp only [ej, List.getD_cons_succ, List.getD_cons_zero, nod_imm, Try.underlying3, e_geq, dj0, decide_true, e_cond, if_true, nod_ptr, e_fa, Nat.zero_add, ld_at hHj, Nat.reduceAdd, lv_cons, List.length_nil, Nat.reduceLeDiff, nod_arr, nd_no, true_and, ix_pi, dj, Int.toNat_natCast, nod_cptr, e_fac, e_ldc, Try.underlying57, e_eql, hq, decide_false, Bool.false_eq_true, if_false, e_sub]; subst hK hQ) | refine Jr.go ?_) | refine sd ?_)
                exact ⟨j, by omega, rfl, by rw [hcj], by omega⟩
            · obtain rfl : j = 0 := by omega
              have e0 : ((0 : Nat) : Int) - 1 = -1 := rfl
              have e1 : ¬ (0 : Int) ≤ ((0 : Nat) : Int) - 1 := by decide
              have e2 : ¬ (0 : Int) ≤ -1 := by decide
              repeat (first | (with_reducible first | refine Ju.go ?_ | (refine Hd.go ?_; intro K Q hK hQ; simp only [Int.cast_ofNat_Int, List.getD_cons_succ, List.getD_cons_zero, nod_imm, Try.underlying3, e_geq, e_cond, decide_eq_true_eq]; subst hK hQ) | refine Jr.go ?_) | refine sd ?_)
              rw [hc0]
              exact kX _ _ (.inl ⟨k3, rfl, rfl⟩)
          · repeat (first | (with_reducible first | refine Ju.go ?_ | (refine Hd.go ?_; intro K Q hK hQ; simp only [k3, if_false]; subst hK hQ) | refine Jr.go ?_) | refine sd ?_)
            exact kX _ _ (.inr ⟨k3, rfl, rfl⟩)
        · have di : ¬ (i : Int) < r.p.length := by omega
          have e : fmP pcs i = W := by rw [eW, show i = r.p.length by omega]
          rw [e]
          repeat (first | (with_reducible first | refine Ju.go ?_ | (refine Hd.go ?_; intro K Q hK hQ; simp only [List.getD_cons_succ, List.getD_cons_zero, nod_ptr, e_fa, Nat.zero_add, ld_at hH00, Nat.reduceAdd, lv_cons, List.length_nil, Nat.reduceLeDiff, nod_arr, nd_no, true_and, e_lenA, List.length_map, nod_imm, Try.underlying3, e_lss, di, decide_false, e_cond, Bool.false_eq_true, if_false, e_eql, decide_true, e_gT, cond_true]; subst hK hQ) | refine Jr.go ?_) | refine sd ?_)
          refine call_of (c15 _) ?_
          repeat (first | (with_reducible first | refine Ju.go ?_ | (refine Hd.go ?_; intro K Q hK hQ; simp only [nod_imm]; subst hK hQ) | refine Jr.go ?_) | refine sd ?_)
          obtain ⟨Y, rfl⟩ := hZe
          exact end1Y
end Go.Proofs.Ytgodfjbmblghnaa


set_option linter.unusedVariables false
set_option linter.unusedSimpArgs false
set_option linter.unnecessarySimpa false
set_option maxRecDepth 20000
set_option maxHeartbeats 2000000
namespace Go.Proofs.Ytgodfjbmblghnaa
open Go Go.Ab Go.Proofs
attribute [local congr] g_bin g_nilS g_nilP g_un g_ext g_bx g_fa g_ld g_st g_ix g_ixA g_slc g_mk g_bs g_bd g_nc g_cv g_len g_lenT g_app g_appB g_cpy g_mm g_call g_callG g_calm g_calmG g_range g_res g_pick g_cond g_loop g_Jv g_eqS g_eqP g_fd g_ixT g_ta g_lkp g_upd g_mkM g_appS g_inv g_callE g_callEG g_invE g_zr g_wr
open Go.ChangeShapes Go.WideShapes Go.ChangeAt Go.RowKit
theorem own : ownKnob Try.prog.godebug = none := by kernel_rfl
theorem laidOut : laidOutB Try.prog = true := by kernel_rfl
set_option maxRecDepth 100000 in
theorem lifted (os : Os) (started : os.Started) (H : Type) (enc : TypeId × Value → H) :
    ReturnsInHanded {} Try.checked os 5 .any (Rows.numeralAgreesSpec.pre6 enc Try.prog Try.f5 Rows.numeralAgreesRow.domain false) (Rows.numeralAgreesSpec.post enc Try.prog Try.f5 false true false false) := by
  refine returnsInHanded_of_change (C := Try.checked) own started (by kernel_rfl) Try.func5
    (ChangeSpec.witness6 (enc := enc) (C := Try.checked) false ⟨#[], #[.agg #[.int .i64 0, .int .i64 0, .int .i64 0, .int .i64 0, .slice none 0 0, .slice none 0 0, .slice none 0 0], .agg #[.int .i64 0, .int .i64 0, .int .i64 0, .int .i64 0]], []⟩ 8 (by kernel_rfl) (by kernel_rfl) (by kernel_rfl) (by kernel_rfl)) ?_
  intro W base args ds gs before hval0 hW hcnd _
  have hval : ∀ (j : Nat) t v, Try.f5.params[j]? = some t → args[j]? = some v → Value.okWide Try.prog W .any base t v := hval0
  have hW' := hW
  obtain ⟨p, q, hA0, hV, rfl, hfz, hnd⟩ := hW
  have hA : DataW.TrodAll enc Try.prog W 0 (fun _ => true) true Try.f5.params.toList args.toList ds p := hA0
  rw [Try.params5] at hA hval
  obtain ⟨v0, vs0, d0, ds0, p0, q0, hargs, rfl, rfl, h0, r0⟩ := trodAll_cons hA
  obtain ⟨v1, vs1, d1, ds1, p1, q1, rfl, rfl, rfl, h1, r1⟩ := trodAll_cons r0
  obtain ⟨rfl, rfl, rfl⟩ := trodAll_nil r1
  obtain rfl : args = #[v0, v1] := by cases args; simp_all
  obtain ⟨rfl, rfl⟩ := trodVars_none hV
  have lt0 : ∀ x ∈ p0, x.block < W.heap.size := by obtain ⟨m, hm⟩ := h0; exact DataW.trod_lt m _ _ _ hm
  obtain ⟨l0, w0, e0⟩ := in_sys (hval 0 _ v0 rfl rfl) h0
  have lt1 : ∀ x ∈ p1, x.block < W.heap.size := by obtain ⟨m, hm⟩ := h1; exact DataW.trod_lt m _ _ _ hm
  obtain ⟨n1, t1, g1, k1, e1⟩ := in_ask (hval 1 _ v1 rfl rfl) h1
  clear hA0 hval0
  refine (bridge (args := [syV l0, asV n1 t1 g1 k1]) (ra := #[v0, v1]) (c5 l0 n1 t1 g1 k1 [] w0) rfl (by intro a ha; simp at ha; rcases ha with rfl | rfl <;> rfl) (fun i => ?_)).mono fun e W' ⟨he, bel⟩ => ?_
  · match i with
    | 0 => exact e0
    | 1 => exact e1
    | i + 2 => exact .junk _
  · subst he
    exact ⟨_, rfl, _, _, _, [], _, [], hW', trodAll_mk1 (shut_bool Try.underlying4 _), (trodAll_cons_mk (Below.trod laidOut (by kernel_rfl) (of_decide_eq_true (by kernel_rfl)) h0 bel lt0) (trodAll_cons_mk (Below.trod laidOut (by kernel_rfl) (of_decide_eq_true (by kernel_rfl)) h1 bel lt1) trodAll_mk0)), rfl, bel.frame _, fun h => by cases h⟩
theorem over : Rows.numeralAgreesRow.holds Try.pinned (OpenSpec.ofChange Rows.numeralAgreesSpec) :=
  OpenClaim.holds_of_wide 5 Try.f5 rfl rfl rfl rfl rfl rfl rfl ⟨rfl, rfl, rfl, rfl, rfl⟩ rfl rfl rfl rfl rfl (by kernel_rfl) Try.func5 (by kernel_rfl)
    (of_decide_eq_true (by kernel_rfl)) (by unfold Func.isWrapper; first | (rw [if_pos (by decide +kernel)]; kernel_rfl) | (rw [if_neg (by decide +kernel)]; exact ⟨rfl, rfl⟩))
    (fun os started H enc _ => lifted os started H enc)
theorem numeralAgrees_holds : Rows.NumeralAgreesSaid := over
#print axioms numeralAgrees_holds
end Go.Proofs.Ytgodfjbmblghnaa

