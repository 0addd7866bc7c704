/- After a stop at most so many samples are heard as were asked for, none louder, and then the piece has stopped: true for every input. -/
import Derived.Test.YtlnjhnemmemloaaP6
import Derived.Test.YtlnjhnemmemloaaProg
import Derived.Test.YtlnjhnemmemloaaRows
set_option linter.unusedVariables false
set_option maxRecDepth 20000
set_option maxHeartbeats 4000000
namespace Go.Proofs.Ytlnjhnemmemloaa
open Go Go.Ab Go.Proofs
def an5 : An := { imm := [8, 10], jn := [(2, [1, 2, 3, 46]), (6, [1, 2, 3, 7, 8, 9]), (8, [1, 2, 3, 8, 10, 68]), (12, [1, 2, 3, 8, 10, 12, 14]), (14, [1, 2, 3, 8, 10, 111]), (17, [1, 2, 3, 12, 14, 15, 17, 18]), (18, [1, 2, 3, 12, 15, 18, 141]), (20, [1, 2, 12, 15, 18, 19]), (24, [1, 2, 12, 15, 18, 19, 20, 224]), (28, [1, 2, 18, 19, 21, 22])], lp := [(21, [1, 2, 12, 15, 18, 19, 20]), (27, [1, 2, 18, 19, 21, 22])], loud := [], ord := [] }
def vc5 (C : Cb) (a0 a1 a2 : V) (H : Hp) (R : List V → Hp → Prop) : Prop :=
 C.aBx false 6 a0.nod H fun v1 H2 =>
 Jn (fun l3 H4 =>
 aCond (l3.getD 3 .junk).nod (
 C.callE 15 [] H4 fun v6 H7 =>
 R [v6] H7) (
 C.aFA 5 1 false (l3.getD 2 .junk).nod fun v8 =>
 C.aSt 1 v8.nod (I 0) H4 fun v9 H10 =>
 C.aFA 0 1 false (l3.getD 2 .junk).nod fun v11 =>
 C.aLd 1 false false v11.nod H10 fun v12 H13 =>
 C.aBd [(I 0), (I 0), (I 0), (I 0), (I 0)] [(0, 1, v12.nod), (3, 1, (I 1099511627776)), (4, 1, (I 1099511627776))] fun v14 =>
 C.aBS 5 1 (V.agg [(I 0), (I 0), (I 0), (I 0), (I 0)]) [(0, (own0 v14 v12).nod)] fun v15 =>
 Jn (fun l16 H17 =>
 C.callE 21 [(l16.getD 3 .junk).nod.nod] H17 fun v19 H20 =>
 C.aExt 0 v19.nod.nod fun v21 =>
 C.aExt 1 v19.nod.nod fun v22 =>
 C.aBx true 3 v21.nod H20 fun v23 H24 =>
 Jn (fun l25 H26 =>
 aCond (l25.getD 5 .junk).nod (
 R [(B false)] H26) (
 C.aFA 1 1 false (l25.getD 3 .junk).nod fun v28 =>
 C.aLd 1 false false v28.nod H26 fun v29 H30 =>
 C.aLd 6 true false (l25.getD 2 .junk).nod H30 fun v31 H32 =>
 C.callE 22 [v29.nod, v31.nod] H32 fun v33 H34 =>
 C.aFA 1 1 false (l25.getD 4 .junk).nod fun v35 =>
 C.aLd 1 false false v35.nod H34 fun v36 H37 =>
 C.aLd 6 true false (l25.getD 2 .junk).nod H37 fun v38 H39 =>
 C.callE 22 [v36.nod, v38.nod] H39 fun v40 H41 =>
 Jn (fun l42 H43 =>
 C.aFA 1 1 false (l42.getD 4 .junk).nod fun v45 =>
 C.aLd 1 false false v45.nod H43 fun v46 H47 =>
 C.callE 23 [v46.nod, (l42.getD 0 .junk).nod.nod] H47 fun v48 H49 =>
 C.aExt 0 v48.nod.nod fun v50 =>
 C.aExt 1 v48.nod.nod fun v51 =>
 C.aExt 2 v48.nod.nod fun v52 =>
 Jn (fun l53 H54 =>
 aCond (l53.getD 5 .junk).nod (
 R [(B false)] H54) (
 C.aFA 1 1 false (l53.getD 3 .junk).nod fun v56 =>
 C.aLd 1 false false v56.nod H54 fun v57 H58 =>
 C.callE 23 [v57.nod, (I 100)] H58 fun v59 H60 =>
 C.aExt 0 v59.nod.nod fun v61 =>
 C.aExt 1 v59.nod.nod fun v62 =>
 C.aExt 2 v59.nod.nod fun v63 =>
 Jn (fun l64 H65 =>
 Jn (fun l67 H68 =>
 aCond (l67.getD 6 .junk).nod (
 R [(B false)] H68) (
 Jn (fun l70 H71 =>
 LoopA (fun l73 H74 K75 =>
 C.aBin (Try.prog.underlying 3) .lss (l73.getD 6 .junk).nod.nod (I 100) fun v76 =>
 aCond v76.nod (
 Jn (fun l77 H78 =>
 aCond (l77.getD 7 .junk).nod (
 R [(B false)] H78) (
 C.aBin (Try.prog.underlying 3) .add (l77.getD 6 .junk).nod.nod (I 1) fun v80 =>
 K75 [(l77.getD 0 .junk), (l77.getD 1 .junk), (l77.getD 2 .junk), (l77.getD 3 .junk), (l77.getD 4 .junk), (l77.getD 5 .junk), v80] H78))
 (fun R79 =>
 C.aUn .not (l73.getD 5 .junk).nod.nod fun v81 =>
 Jv (fun v82 H83 =>
 Jv (fun v92 H93 =>
 R79 [(l73.getD 0 .junk), (l73.getD 1 .junk), (l73.getD 2 .junk), (l73.getD 3 .junk), (l73.getD 4 .junk), (l73.getD 5 .junk), (l73.getD 6 .junk), v92] H93)
 (fun R94 =>
 aG v82.nod false (
 aG (l73.getD 5 .junk).nod.nod true (
 C.aBin (Try.prog.underlying 3) .geq (l73.getD 6 .junk).nod.nod (l73.getD 1 .junk).nod.nod fun v95 =>
 aG v95.nod true (
 C.aIx 1 (l73.getD 2 .junk).nod.nod (l73.getD 6 .junk).nod.nod fun v96 =>
 C.aLd 1 false false v96.nod H83 fun v97 H98 =>
 C.aBin (Try.prog.underlying 3) .neq v97.nod (I 0) fun v99 =>
 aG v99.nod.nod false (
 C.aBin (Try.prog.underlying 3) .lss (l73.getD 6 .junk).nod.nod (l73.getD 1 .junk).nod.nod fun v100 =>
 aG v100.nod true (
 C.aIx 1 (l73.getD 2 .junk).nod.nod (l73.getD 6 .junk).nod.nod fun v101 =>
 C.aLd 1 false false v101.nod H98 fun v102 H103 =>
 C.aIx 1 (l73.getD 2 .junk).nod.nod (l73.getD 6 .junk).nod.nod fun v104 =>
 C.aLd 1 false false v104.nod H103 fun v105 H106 =>
 C.aUn .neg v105.nod fun v107 =>
 C.aMM true [v102.nod, v107.nod] fun v108 =>
 C.aIx 1 (l73.getD 3 .junk).nod.nod (l73.getD 6 .junk).nod.nod fun v109 =>
 C.aLd 1 false false v109.nod H106 fun v110 H111 =>
 C.aIx 1 (l73.getD 3 .junk).nod.nod (l73.getD 6 .junk).nod.nod fun v112 =>
 C.aLd 1 false false v112.nod H111 fun v113 H114 =>
 C.aUn .neg v113.nod fun v115 =>
 C.aMM true [v110.nod, v115.nod] fun v116 =>
 C.aBin (Try.prog.underlying 3) .gtr v108.nod v116.nod fun v117 =>
 aG v117.nod false (
 C.aIx 1 (l73.getD 2 .junk).nod.nod (l73.getD 6 .junk).nod.nod fun v118 =>
 C.aLd 1 false false v118.nod H114 fun v119 H120 =>
 C.aIx 1 (l73.getD 3 .junk).nod.nod (l73.getD 6 .junk).nod.nod fun v121 =>
 C.aLd 1 false false v121.nod H120 fun v122 H123 =>
 C.aBin (Try.prog.underlying 3) .mul v119.nod v122.nod fun v124 =>
 C.aBin (Try.prog.underlying 3) .lss v124.nod (I 0) fun v125 =>
 R94 v125.nod.nod.nod.nod.nod H123) (
 R94 (B true) H114)) (
 UD = UD ∧
 UD = UD ∧
 UD = UD ∧
 UD = UD ∧
 UD = UD ∧
 UD = UD ∧
 UD = UD ∧
 UD = UD ∧
 UD = UD ∧
 UD = UD ∧
 R94 (B false) H98)) (
 UD = UD ∧
 UD = UD ∧
 UD = UD ∧
 UD = UD ∧
 UD = UD ∧
 UD = UD ∧
 UD = UD ∧
 UD = UD ∧
 UD = UD ∧
 UD = UD ∧
 UD = UD ∧
 UD = UD ∧
 UD = UD ∧
 UD = UD ∧
 UD = UD ∧
 UD = UD ∧
 UD = UD ∧
 UD = UD ∧
 UD = UD ∧
 UD = UD ∧
 UD = UD ∧
 UD = UD ∧
 UD = UD ∧
 UD = UD ∧
 UD = UD ∧
 UD = UD ∧
 UD = UD ∧
 UD = UD ∧
 UD = UD ∧
 UD = UD ∧
 UD = UD ∧
 UD = UD ∧
 UD = UD ∧
 R94 (B true) H98)) (
 C.aBin (Try.prog.underlying 3) .lss (l73.getD 6 .junk).nod.nod (l73.getD 1 .junk).nod.nod fun v126 =>
 aG v126.nod true (
 C.aIx 1 (l73.getD 2 .junk).nod.nod (l73.getD 6 .junk).nod.nod fun v127 =>
 C.aLd 1 false false v127.nod H83 fun v128 H129 =>
 C.aIx 1 (l73.getD 2 .junk).nod.nod (l73.getD 6 .junk).nod.nod fun v130 =>
 C.aLd 1 false false v130.nod H129 fun v131 H132 =>
 C.aUn .neg v131.nod fun v133 =>
 C.aMM true [v128.nod, v133.nod] fun v134 =>
 C.aIx 1 (l73.getD 3 .junk).nod.nod (l73.getD 6 .junk).nod.nod fun v135 =>
 C.aLd 1 false false v135.nod H132 fun v136 H137 =>
 C.aIx 1 (l73.getD 3 .junk).nod.nod (l73.getD 6 .junk).nod.nod fun v138 =>
 C.aLd 1 false false v138.nod H137 fun v139 H140 =>
 C.aUn .neg v139.nod fun v141 =>
 C.aMM true [v136.nod, v141.nod] fun v142 =>
 C.aBin (Try.prog.underlying 3) .gtr v134.nod v142.nod fun v143 =>
 aG v143.nod false (
 C.aIx 1 (l73.getD 2 .junk).nod.nod (l73.getD 6 .junk).nod.nod fun v144 =>
 C.aLd 1 false false v144.nod H140 fun v145 H146 =>
 C.aIx 1 (l73.getD 3 .junk).nod.nod (l73.getD 6 .junk).nod.nod fun v147 =>
 C.aLd 1 false false v147.nod H146 fun v148 H149 =>
 C.aBin (Try.prog.underlying 3) .mul v145.nod v148.nod fun v150 =>
 C.aBin (Try.prog.underlying 3) .lss v150.nod (I 0) fun v151 =>
 R94 v151.nod.nod.nod.nod.nod H149) (
 R94 (B true) H140)) (
 UD = UD ∧
 UD = UD ∧
 UD = UD ∧
 UD = UD ∧
 UD = UD ∧
 UD = UD ∧
 UD = UD ∧
 UD = UD ∧
 UD = UD ∧
 UD = UD ∧
 R94 (B false) H83))) (
 UD = UD ∧
 UD = UD ∧
 UD = UD ∧
 UD = UD ∧
 UD = UD ∧
 UD = UD ∧
 UD = UD ∧
 UD = UD ∧
 UD = UD ∧
 UD = UD ∧
 UD = UD ∧
 UD = UD ∧
 UD = UD ∧
 UD = UD ∧
 UD = UD ∧
 UD = UD ∧
 UD = UD ∧
 UD = UD ∧
 UD = UD ∧
 UD = UD ∧
 UD = UD ∧
 UD = UD ∧
 UD = UD ∧
 UD = UD ∧
 UD = UD ∧
 UD = UD ∧
 UD = UD ∧
 UD = UD ∧
 UD = UD ∧
 UD = UD ∧
 UD = UD ∧
 UD = UD ∧
 UD = UD ∧
 UD = UD ∧
 UD = UD ∧
 UD = UD ∧
 UD = UD ∧
 UD = UD ∧
 UD = UD ∧
 UD = UD ∧
 UD = UD ∧
 UD = UD ∧
 UD = UD ∧
 R94 (B false) H83)) (
 UD = UD ∧
 UD = UD ∧
 UD = UD ∧
 UD = UD ∧
 UD = UD ∧
 UD = UD ∧
 UD = UD ∧
 UD = UD ∧
 UD = UD ∧
 UD = UD ∧
 UD = UD ∧
 UD = UD ∧
 UD = UD ∧
 UD = UD ∧
 UD = UD ∧
 UD = UD ∧
 UD = UD ∧
 UD = UD ∧
 UD = UD ∧
 UD = UD ∧
 UD = UD ∧
 UD = UD ∧
 UD = UD ∧
 UD = UD ∧
 UD = UD ∧
 UD = UD ∧
 UD = UD ∧
 UD = UD ∧
 UD = UD ∧
 UD = UD ∧
 UD = UD ∧
 UD = UD ∧
 UD = UD ∧
 UD = UD ∧
 UD = UD ∧
 UD = UD ∧
 UD = UD ∧
 UD = UD ∧
 UD = UD ∧
 UD = UD ∧
 UD = UD ∧
 UD = UD ∧
 UD = UD ∧
 UD = UD ∧
 UD = UD ∧
 UD = UD ∧
 UD = UD ∧
 UD = UD ∧
 UD = UD ∧
 UD = UD ∧
 R94 (B true) H83)))
 (fun R84 =>
 aG v81.nod true (
 C.aIx 1 (l73.getD 2 .junk).nod.nod (l73.getD 6 .junk).nod.nod fun v85 =>
 C.aLd 1 false false v85.nod H74 fun v86 H87 =>
 C.aIx 1 (l73.getD 3 .junk).nod.nod (l73.getD 6 .junk).nod.nod fun v88 =>
 C.aLd 1 false false v88.nod H87 fun v89 H90 =>
 C.aBin (Try.prog.underlying 3) .neq v86.nod v89.nod fun v91 =>
 R84 v91.nod H90) (
 R84 (B false) H74)))) (
 LoopA (fun l152 H153 K154 =>
 C.aLen (l152.getD 2 .junk).nod.nod fun v155 =>
 C.aBin (Try.prog.underlying 3) .lss (l152.getD 5 .junk).nod.nod v155.nod fun v156 =>
 aCond v156.nod (
 Jn (fun l157 H158 =>
 C.aBin (Try.prog.underlying 3) .add (l157.getD 5 .junk).nod.nod (I 1) fun v160 =>
 K154 [(l157.getD 0 .junk), (l157.getD 1 .junk), (l157.getD 2 .junk), (l157.getD 3 .junk), (l157.getD 4 .junk), v160] H158)
 (fun R159 =>
 Jv (fun v161 H162 =>
 R159 [(l152.getD 0 .junk), (l152.getD 1 .junk), (l152.getD 2 .junk), (l152.getD 3 .junk), v161, (l152.getD 5 .junk)] H162)
 (fun R163 =>
 aG (l152.getD 4 .junk).nod.nod false (
 C.aIx 4 (l152.getD 2 .junk).nod.nod (l152.getD 5 .junk).nod.nod fun v164 =>
 C.aFA 0 1 false v164.nod fun v165 =>
 C.aLd 1 false false v165.nod H153 fun v166 H167 =>
 C.aBin (Try.prog.underlying 57) .eql v166.nod (I 5) fun v168 =>
 aG v168.nod true (
 C.aIx 4 (l152.getD 2 .junk).nod.nod (l152.getD 5 .junk).nod.nod fun v169 =>
 C.aFA 1 1 false v169.nod fun v170 =>
 C.aLd 1 false false v170.nod H167 fun v171 H172 =>
 C.aBin (Try.prog.underlying 3) .add (l152.getD 0 .junk).nod.nod (l152.getD 1 .junk).nod.nod fun v173 =>
 C.aBin (Try.prog.underlying 3) .eql v171.nod v173.nod fun v174 =>
 R163 v174.nod.nod H172) (
 R163 (B false) H167)) (
 UD = UD ∧
 UD = UD ∧
 UD = UD ∧
 UD = UD ∧
 UD = UD ∧
 UD = UD ∧
 UD = UD ∧
 UD = UD ∧
 UD = UD ∧
 R163 (B true) H153)))) (
 C.aBin (Try.prog.underlying 4) .eql (l152.getD 4 .junk).nod.nod (l152.getD 3 .junk).nod.nod fun v175 =>
 Jv (fun v176 H177 =>
 R [v176] H177)
 (fun R178 =>
 aG v175.nod true (
 C.callE 15 [] H153 fun v179 H180 =>
 R178 v179.nod H180) (
 R178 (B false) H153))))
 [(l73.getD 0 .junk), (l73.getD 1 .junk), (l73.getD 4 .junk), (l73.getD 5 .junk), (B false), (I 0)] H74))
 [(l70.getD 0 .junk), (l70.getD 1 .junk), (l70.getD 2 .junk), (l70.getD 3 .junk), (l70.getD 4 .junk), (l70.getD 5 .junk), (I 0)] H71)
 (fun R72 =>
 C.aBin (Try.prog.underlying 3) .gtr (l67.getD 0 .junk).nod.nod (I 0) fun v181 =>
 Jv (fun v182 H183 =>
 R72 [(l67.getD 0 .junk), (l67.getD 1 .junk), (l67.getD 3 .junk), (l67.getD 4 .junk), (l67.getD 5 .junk), v182] H183)
 (fun R184 =>
 aG v181.nod true (
 C.aFA 2 1 false (l67.getD 2 .junk).nod fun v185 =>
 C.aLd 1 false false v185.nod H68 fun v186 H187 =>
 C.aLen v186.nod fun v188 =>
 C.aBin (Try.prog.underlying 3) .sub v188.nod (l67.getD 0 .junk).nod.nod fun v189 =>
 C.aBin (Try.prog.underlying 3) .gtr v189.nod (l67.getD 1 .junk).nod.nod fun v190 =>
 R184 v190.nod H187) (
 R184 (B false) H68)))))
 (fun R69 =>
 C.aBin (Try.prog.underlying 30) .neq (l64.getD 4 .junk).nod.nod (I 0) fun v191 =>
 Jv (fun v192 H193 =>
 Jv (fun v196 H197 =>
 Jv (fun v201 H202 =>
 R69 [(l64.getD 0 .junk), (l64.getD 1 .junk), (l64.getD 2 .junk), (l64.getD 3 .junk), (l64.getD 5 .junk), (l64.getD 7 .junk), v201] H202)
 (fun R203 =>
 aG v196.nod false (
 C.aLen (l64.getD 5 .junk).nod.nod fun v204 =>
 C.aBin (Try.prog.underlying 3) .neq v204.nod (I 100) fun v205 =>
 R203 v205.nod H197) (
 R203 (B true) H197)))
 (fun R198 =>
 aG v192.nod false (
 C.aLen (l64.getD 3 .junk).nod.nod fun v199 =>
 C.aBin (Try.prog.underlying 3) .neq v199.nod (I 100) fun v200 =>
 R198 v200.nod H193) (
 R198 (B true) H193)))
 (fun R194 =>
 aG v191.nod false (
 C.aBin (Try.prog.underlying 30) .neq (l64.getD 6 .junk).nod.nod (I 0) fun v195 =>
 R194 v195.nod H65) (
 R194 (B true) H65))))
 (fun R66 =>
 C.aFA 1 1 false (l53.getD 4 .junk).nod fun v206 =>
 C.aLd 1 false false v206.nod H60 fun v207 H208 =>
 C.callE 23 [v207.nod, (I 100)] H208 fun v209 H210 =>
 C.aExt 0 v209.nod.nod fun v211 =>
 C.aExt 1 v209.nod.nod fun v212 =>
 C.aExt 2 v209.nod.nod fun v213 =>
 R66 [(l53.getD 0 .junk), (l53.getD 1 .junk), (l53.getD 2 .junk), v61, v63, v211, v213, v62] H210)))
 (fun R55 =>
 C.aBin (Try.prog.underlying 30) .neq (l42.getD 6 .junk).nod.nod (I 0) fun v214 =>
 Jv (fun v215 H216 =>
 Jv (fun v219 H220 =>
 Jv (fun v225 H226 =>
 R55 [(l42.getD 0 .junk), (l42.getD 1 .junk), (l42.getD 2 .junk), (l42.getD 3 .junk), (l42.getD 4 .junk), v225] H226)
 (fun R227 =>
 aG v219.nod false (
 C.aFA 1 1 false (l42.getD 3 .junk).nod fun v228 =>
 C.aLd 1 false false v228.nod H220 fun v229 H230 =>
 C.callE 25 [v229.nod, (l42.getD 1 .junk).nod.nod] H230 fun v231 H232 =>
 C.aBin (Try.prog.underlying 30) .neq v231.nod (I 0) fun v233 =>
 R227 v233.nod H232) (
 R227 (B true) H220)))
 (fun R221 =>
 aG v215.nod false (
 C.callE 24 [(l42.getD 5 .junk).nod.nod, v50.nod.nod] H216 fun v222 H223 =>
 C.aUn .not v222.nod fun v224 =>
 R221 v224.nod H223) (
 R221 (B true) H216)))
 (fun R217 =>
 aG v214.nod false (
 C.aBin (Try.prog.underlying 30) .neq v52.nod.nod (I 0) fun v218 =>
 R217 v218.nod H49) (
 R217 (B true) H49))))
 (fun R44 =>
 C.aFA 1 1 false (l25.getD 3 .junk).nod fun v234 =>
 C.aLd 1 false false v234.nod H41 fun v235 H236 =>
 C.callE 23 [v235.nod, (l25.getD 0 .junk).nod.nod] H236 fun v237 H238 =>
 C.aExt 0 v237.nod.nod fun v239 =>
 C.aExt 1 v237.nod.nod fun v240 =>
 C.aExt 2 v237.nod.nod fun v241 =>
 R44 [(l25.getD 0 .junk), (l25.getD 1 .junk), (l25.getD 2 .junk), (l25.getD 3 .junk), (l25.getD 4 .junk), v239, v241] H238)))
 (fun R27 =>
 C.aUn .not (l16.getD 5 .junk).nod.nod fun v242 =>
 Jv (fun v243 H244 =>
 R27 [(l16.getD 0 .junk), (l16.getD 1 .junk), (l16.getD 2 .junk), (l16.getD 4 .junk), v23, v243] H244)
 (fun R245 =>
 aG v242.nod false (
 C.aUn .not v22.nod.nod fun v246 =>
 R245 v246.nod H24) (
 R245 (B true) H24))))
 (fun R18 =>
 C.callE 21 [v15.nod.nod] H13 fun v247 H248 =>
 C.aExt 0 v247.nod.nod fun v249 =>
 C.aExt 1 v247.nod.nod fun v250 =>
 C.aBx true 3 v249.nod H248 fun v251 H252 =>
 R18 [(l3.getD 0 .junk), (l3.getD 1 .junk), (l3.getD 2 .junk), v15, v251, v250] H252)))
 (fun R5 =>
 C.aLd 6 true false v1.nod H2 fun v253 H254 =>
 C.callE 14 [v253.nod] H254 fun v255 H256 =>
 C.aUn .not v255.nod fun v257 =>
 Jv (fun v258 H259 =>
 Jv (fun v266 H267 =>
 Jv (fun v270 H271 =>
 Jv (fun v274 H275 =>
 Jv (fun v278 H279 =>
 R5 [a1, a2, v1, v278] H279)
 (fun R280 =>
 aG v274.nod false (
 C.aBin (Try.prog.underlying 3) .gtr a2.nod.nod (I 100) fun v281 =>
 R280 v281.nod H275) (
 R280 (B true) H275)))
 (fun R276 =>
 aG v270.nod false (
 C.aBin (Try.prog.underlying 3) .lss a2.nod.nod (I 0) fun v277 =>
 R276 v277.nod H271) (
 R276 (B true) H271)))
 (fun R272 =>
 aG v266.nod false (
 C.aBin (Try.prog.underlying 3) .gtr a1.nod.nod (I 100) fun v273 =>
 R272 v273.nod H267) (
 R272 (B true) H267)))
 (fun R268 =>
 aG v258.nod false (
 C.aBin (Try.prog.underlying 3) .lss a1.nod.nod (I 0) fun v269 =>
 R268 v269.nod H259) (
 R268 (B true) H259)))
 (fun R260 =>
 aG v257.nod false (
 C.aLd 6 true false v1.nod H256 fun v261 H262 =>
 C.callE 17 [v261.nod] H262 fun v263 H264 =>
 C.aUn .not v263.nod fun v265 =>
 R260 v265.nod H264) (
 R260 (B true) H256)))
theorem wf5 : (Nat.ble 3 Try.f5.ntmps && wfC an5 Try.f5.ntmps (Try.f5.body.getD .skip)) = true := by kernel_rfl
theorem tie5 (C : Cb) (a0 a1 a2 : V) (H : Hp) (R : List V → Hp → Prop) : wpG Try.prog C an5 (Try.f5.body.getD .skip) (argF [a0, a1, a2]) H (retG Try.prog C Try.f5 R) (fun _ _ _ => False) (retG Try.prog C Try.f5 R) = vc5 C a0 a1 a2 H R := by kernel_rfl
theorem mk5 (a0 a1 a2 : V) {H : Hp} {v : V} {H1 : Hp} (hd : v.Nd) (hn : H.length ≤ H1.length) (hb : H1 = H ∨ ∀ (b : Nat) (blk : Blk), H1[b]? = some blk → H[b]? = some blk ∨ BelB H1.length blk) (h : vc5 (real Try.prog) a0 a1 a2 H (retF v H1)) : Ret Try.prog 5 [a0, a1, a2] H v H1 :=
 ret_mk (an := an5) hm Try.call5 Try.func5 rfl wf5 hd hn hb (Eq.mpr (tie5 (real Try.prog) a0 a1 a2 H (retF v H1)) h)
theorem mkE5 (a0 a1 a2 : V) {H : Hp} {Q : V → Hp → Prop} (h : vc5 (real Try.prog) a0 a1 a2 H (retW Q)) : RetE Try.prog 5 [a0, a1, a2] H Q :=
 retE_mk (an := an5) hm Try.call5 Try.func5 rfl wf5 (Eq.mpr (tie5 (real Try.prog) a0 a1 a2 H (retW Q)) h)
theorem mko5 (a0 a1 a2 : V) {H : Hp} {xs : List V} {H1 : Hp} (hn : H.length ≤ H1.length) (hb : H1 = H ∨ ∀ (b : Nat) (blk : Blk), H1[b]? = some blk → H[b]? = some blk ∨ BelB H1.length blk) (h : vc5 (real Try.prog) a0 a1 a2 H (retO xs H1)) : Ret Try.prog 5 [a0, a1, a2] H (.arr xs .own) H1 :=
 ret_mko (an := an5) (t := 6) hm Try.call5 Try.func5 rfl wf5 rfl hn hb (Eq.mpr (tie5 (real Try.prog) a0 a1 a2 H (retO xs H1)) h)
end Go.Proofs.Ytlnjhnemmemloaa
set_option linter.unusedSimpArgs false
set_option linter.unnecessarySimpa false
set_option maxHeartbeats 2000000
namespace Go.Proofs.Ytlnjhnemmemloaa
open Go Go.Ab Go.Proofs
attribute [local congr] g_bin g_nilS g_nilP g_un g_ext g_bx g_fa g_ld g_st g_ix g_ixA g_slc g_mk g_bs g_bd g_nc g_cv g_len g_lenT g_app g_appB g_cpy g_mm g_call g_callG g_calm g_calmG g_range g_res g_pick g_cond g_loop g_Jv g_eqS g_eqP g_fd g_ixT g_ta g_lkp g_upd g_mkM g_appS g_inv g_callE g_callEG g_invE g_zr g_wr
structure Two (G0 G : Hp) (s1 : Nat) (a1 : Ad) (m1 : Mo) (s2 : Nat) (a2 : Ad) (m2 : Mo) : Prop where
 x : SpAt G s1 a1 m1
 y : SpAt G s2 a2 m2
 d : ∀ c, SpS s1 a1 m1 c → ¬ SpS s2 a2 m2 c
 h1 : ∀ c, SpS s1 a1 m1 c → G0.length ≤ c
 h2 : ∀ c, SpS s2 a2 m2 c → G0.length ≤ c
 lo : ∀ c, c < G0.length → G[c]? = G0[c]?
 ln : G0.length ≤ G.length
theorem Two.swap {G0 G : Hp} {s1 s2 : Nat} {a1 a2 : Ad} {m1 m2 : Mo} (h : Two G0 G s1 a1 m1 s2 a2 m2) : Two G0 G s2 a2 m2 s1 a1 m1 :=
 ⟨h.y, h.x, fun c h2 h1 => h.d c h1 h2, h.h2, h.h1, h.lo, h.ln⟩
theorem Two.step {G0 G G' : Hp} {s1 s2 : Nat} {a1 a2 a1' : Ad} {m1 m2 m1' : Mo} (h : Two G0 G s1 a1 m1 s2 a2 m2) (k : Stp G G' s1 a1 m1 a1' m1') : Two G0 G' s1 a1' m1' s2 a2 m2 := by
 refine ⟨k.s, h.y.fr k.h fun c h2 h1 => h.d c h1 h2, fun c hc h2 => ?_, fun c hc => ?_, h.h2, fun c hc => ?_, Nat.le_trans h.ln k.h.1⟩
 ·exact h.d c (k.f c (h.y.lt h2) hc) h2
 ·by_cases hl : c < G.length
  ·exact h.h1 c (k.f c hl hc)
  ·have := h.ln; omega
 ·rw [k.h.2 c (by have := h.ln; omega) (fun hs => by have := h.h1 c hs; omega)]
  exact h.lo c hc
theorem Two.mk' {G0 G1 G2 : Hp} {gs : List Gr} {l1 s1 r1 w1 b1 l2 s2 r2 w2 b2 : Nat} {a1 a2 : Ad} (h : Beg G0 G1 gs l1 s1 r1 w1 b1 a1) (k : Beg G1 G2 gs l2 s2 r2 w2 b2 a2) : Two G0 G2 s1 a1 (mo0 gs) s2 a2 (mo0 gs) :=
 ⟨h.sp.fr k.fr fun _ _ e => e, k.sp, fun c h1 h2 => by have := h.sp.lt h1; have := k.hi c h2; omega, h.hi, fun c hc => Nat.le_trans h.fr.1 (k.hi c hc), fun c hc => by rw [k.fr.2 c (Nat.lt_of_lt_of_le hc h.fr.1) (fun e => e), h.fr.2 c hc (fun e => e)], Nat.le_trans h.fr.1 k.fr.1⟩
abbrev ef0 (p : Spc) : Spc := { p with ef := 0 }
theorem ef0_sm {p : Spc} (h : Sm p) : Sm (ef0 p) := ⟨h.sm, h.pe, h.sg, h.nm⟩
theorem ef0_ok {p : Spc} (h : okSp p = true) : okSp (ef0 p) = true := by
 unfold okSp okHd at *
 simp only [Bool.and_eq_true] at h ⊢
 obtain ⟨⟨⟨h1, h2⟩, h3⟩, h4⟩ := h
 exact ⟨⟨⟨⟨⟨⟨⟨h1.1.1.1.1, rfl⟩, h1.1.1.2⟩, h1.1.2⟩, h1.2⟩, h2⟩, h3⟩, h4⟩
theorem bs_gn (a b c d e : Int) (z : V) (K : V → Prop) : aBS 5 1 z [(0, .agg [I a, I b, I c, I d, I e])] K = K (.arr [.agg [I a, I b, I c, I d, I e]] .full) := by
 have h : okE 5 (.agg [I a, I b, I c, I d, I e]) = True := eq_true ⟨rfl, fun x hc => by
  simp only [V.cl, List.mem_cons, List.not_mem_nil, or_false] at hc
  rcases hc with rfl | rfl | rfl | rfl | rfl <;> rfl⟩
 simp [aBS, aPs, setP, h]
theorem okSp.vu {p : Spc} (h : okSp p = true) : inB p.vo 1 100 = true ∧ inB p.us 1 100 = true := by
 unfold okSp okHd at h
 simp only [Bool.and_eq_true] at h
 exact ⟨h.1.1.1.1.1.1.1.1, h.1.1.1.1.1.1.1.2⟩
theorem gs_gF {p : Spc} (h : okSp p = true) : gsOf [gF p] = [⟨gF p, false, 0⟩] := by
 have h1 := (okSp.vu h).1
 unfold gsOf
 have : okGn (gF p) = true := by
  unfold okGn gF
  show (inB p.vo 1 100 && true && true && true && true) = true
  rw [h1]; rfl
 simp [this]
theorem mF_ok {p : Spc} (h : okSp p = true) : Mok (mF (ef0 p)) := by
 have h0 := mo0_ok (gs := [⟨gF (ef0 p), false, 0⟩]) (fun g hg => by
  simp only [List.mem_singleton] at hg
  subst hg
  exact ⟨(show (0 : Int) ≤ 1099511627776 by decide), Int.le_refl (1099511627776 : Int), Int.le_refl (0 : Int), (show (0 : Int) ≤ 1099511627776 by decide)⟩) (show (1 : Nat) ≤ 500 by decide)
 exact ⟨h0.gs, h0.gl, fun x hx => by
  have hx' : x ∈ [(⟨ef0 p, 0, 0⟩ : Qd)] := hx
  simp only [List.mem_singleton] at hx'
  subst hx'
  exact ⟨ef0_ok h, Int.le_refl _, Int.le_refl _⟩, (show (1 : Nat) ≤ 200 by decide), h0.k, h0.c0, h0.c1, h0.st, h0.ol, h0.od, h0.ov, h0.sl, h0.sg, h0.so⟩
theorem mPull_len (m : Mo) : ∀ n, (mPull n m).1.length = n
 | 0 => rfl
 | n + 1 => by
  show ((mPull n m).1 ++ [(mSample (mPull n m).2.1).1]).length = n + 1
  rw [List.length_append, mPull_len m n]
  rfl
theorem smB_len {p : Spc} (h : smB p = true) (ho : okSp p = true) : p.sm.length ≤ 100 := by
 have := okSp.len ho
 unfold smB at h
 simp only [Bool.and_eq_true, Bool.not_eq_true', Bool.or_eq_false_iff, Bool.and_eq_false_iff, decide_eq_false_iff_not] at h
 omega
theorem nd_of {f : Fl} (h : f = .no ∨ f = .full) : f.nd = f := by rcases h with rfl | rfl <;> rfl
def fd5 (t : Int) (y : Nw) : Bool := decide (y.k = 5) && decide (y.a = t)
theorem c5 (p : Spc) (b f : Int) (H : Hp) (sm : Sm p) : Ret Try.prog 5 [spV p, I b, I f] H (B true) H := by
 refine mk5 _ _ _ rfl (Nat.le_refl _) (.inl rfl) ?_
 simp only [vc5, real]
 repeat (first | (with_reducible first | refine Ju.go ?_ | (refine Hd.go ?_; intro K Q hK hQ; simp only [nod_agg, List.map_cons, nodL_imm, nodL_ints, nd_no, nodL_arr, List.map_nil, e_bx, okE_agg, lv_cons, List.length_nil, Nat.zero_add, Nat.reduceAdd, all_c, ck_I, ck_ints, ck_arr, all_n, Bool.and_self, and_true, cl_agg, true_and, nod_ptr, e_lA0, Nat.reduceLeDiff, dr_0, tk_s, tk_0]; subst hK hQ) | refine Jr.go ?_) | refine sd ?_)
 refine call_of (c14 p _ sm) ?_
 cases hs : smB p
 ·repeat (first | (with_reducible first | refine Ju.go ?_ | (refine Hd.go ?_; intro K Q hK hQ; simp only [nod_imm, e_not, Bool.not_false, nod_ptr, e_lA0, Nat.zero_add, lv_cons, List.length_nil, Nat.reduceAdd, Nat.reduceLeDiff, dr_0, tk_s, tk_0, nod_agg, List.map_cons, nodL_imm, nodL_ints, nd_no, nodL_arr, List.map_nil, true_and, e_gF, cond_true, j_one, Try.underlying3, e_lss, e_gtr, List.getD_cons_succ, List.getD_cons_zero, e_cond, if_true]; subst hK hQ) | refine Jr.go ?_) | refine sd ?_)
  refine call_of (c15x _) ?_
  repeat (first | (with_reducible first | refine Ju.go ?_ | (refine Hd.go ?_; intro K Q hK hQ; simp only [Try.underlying3, Try.underlying4, Try.underlying5, Try.underlying9, Try.underlying22, Try.underlying23, Try.underlying30, Try.underlying43, Try.underlying44, Try.underlying57, Try.underlying100, Try.underlying124, Try.underlying184, j_one, j_side, j_tl, j_fl, nod_nod, nod_imm, nod_ints, nd_no, nd_own, nd_full, nd_fO, oF_ap, oF_succ, nod_sl, nod_ptr, nod_cptr, nod_fn, nod_junk, nodL_imm, nod_agg, nod_tup, nod2_imm, nod2_agg, cl_imm, cl_ints, cl_agg, e_add, e_sub, e_mul, e_quo, e_rem, e_eql, e_neq, e_lss, e_leq, e_gtr, e_geq, e_beq, e_bne, e_neg, e_not, e_pick, e_cond, e_gT, e_gF, e_len, e_lenA, e_lenS, e_ix, e_ixS, e_ldc, e_ldci, e_fa, rep_cl, rep_I, e_bx, okE_I, okE_B, okE_E8, okE_ints, stV_imm, stV_ints, j_and', j_or', List.getD_cons_zero, List.getD_cons_succ, List.map_cons, List.map_nil, decide_eq_true_eq, Int.toNat_natCast, Nat.mul_one, Nat.zero_add, true_and, and_true, List.length_map, Bool.not_eq_true', decide_eq_false_iff_not, nod_lists, e_lenL, e_ixL, okE_lists, bs1, bs1L, bs2L, e_app, e_appL, e_app0, e_app0L, e_slcLo, e_slcHi, e_slcLH, e_slcHH, e_slcLHH, e_callG, e_callY, e_calmG, e_slS0, e_slSLo, e_slSHi, e_slSLH, e_slSHH, e_slSLHH, e_max2, e_min2, e_max3, e_x20, e_x21, e_x30, e_x31, e_x32, nod2_ints, nod2_lists, rep_fl, bs0, e_nilE, if_true, if_false, cond_true, cond_false, decide_true, decide_false, eq_self, Bool.false_eq_true, false_implies, true_implies, ap_own, ap_full, e_slcLoL, e_slcHiL, e_slcLHL, hp_assoc, hp_cons, hp_nil, hp_len, hp_len_cons, hp_len_nil, lv_cons, lv_nil, vs_0, vs_s, spl_s, spl_0, spl_n, dr_s, dr_0, tk_s, tk_0, e_bxI, e_fac, e_facA, e_ldcA, e_ldcL, e_ldcF, okE_agg, ck_I, ck_B, ck_ints, ck_lists, ck_arr, ck_ptr, ck_cptr, ck_fn, all_c, all_n, stV_agg, stV_lists, stV_arr, stV_ptr, stV_cptr, stV_fn, nodL_ints, nodL_lists, nodL_ptr, nodL_cptr, nodL_fn, nodL_arr0, cl_arr, cl_ptr, cl_cptr, cl_fn, cl_lists, okE_arr, okE_fn, okE_ptr, okE_cptr, e_bd0, e_bd1, e_wr, Nat.reduceAdd, Nat.reduceLeDiff, Nat.reduceEqDiff, Nat.add_zero, Bool.and_self, Bool.true_and, Bool.and_true, e_lc0, e_lA0, e_lM0, e_sc0, e_rc0, e_rA0, e_lI0, e_sI0, e_cI0, e_lc1, e_lA1, e_lM1, e_sc1, e_rc1, e_rA1, e_lI1, e_sI1, e_cI1, e_lc2, e_lA2, e_lM2, e_sc2, e_rc2, e_rA2, e_lI2, e_sI2, e_cI2, e_lc3, e_lA3, e_lM3, e_sc3, e_rc3, e_rA3, e_lI3, e_sI3, e_cI3, e_lc4, e_lA4, e_lM4, e_sc4, e_rc4, e_rA4, e_lI4, e_sI4, e_cI4, e_lc5, e_lA5, e_lM5, e_sc5, e_rc5, e_rA5, e_lI5, e_sI5, e_cI5, own0_arr, own0_ints, own0_lists, own0_imm, own0_ptr, own0_cptr, own0_fn, own0_agg, e_appB, e_appB0, ck_sl, own0_sl, stV_sl, nodL_sl, cl_sl, okE_sl, e_mkM, e_mkI, e_mkIm, e_callB, nod_bfn, nod_ifc, nod_map, nodL_ifc, nodL_bfn, nodL_map, cl_ifc, cl_bfn, ck_ifc, ck_bfn, ck_map, stV_ifc, okE_ifc, okE_bfn, nod_arr, nodL_arr, e_addU, e_mulU, e_shrK, e_shlK, e_andK, e_cv64, e_cv32, e_callEG, e_callEY, e_callEB, e_zr, e_nilSl, e_ncP, e_ncC, e_ncI, e_npnP, e_npeP, e_npnC, e_npeC, e_npnN, e_npeN, e_ixAP, e_ldcP, e_ldcS, e_ldcV, e_ldcT, okE_nilP, ck_nilP, okE_nilI, ck_nilI, okE_str, ck_str, e_tlen, e_tix, e_teq, e_tne, e_tadd, e_tb, e_u8lss, e_u8gtr, noV_full, nod_arr, List.length_map, reduceIte, Int.reduceEq, Int.reduceNeg, ne_eq, not_true_eq_false, not_false_eq_true, Bool.not_true, Bool.not_false, Bool.true_or, Bool.or_true, Bool.false_or, Bool.or_false, Bool.and_true, Bool.and_false, Bool.false_and, Bool.not_not, Bool.or_self, List.length_nil, Int.ofNat_zero, Int.cast_ofNat_Int, Int.natCast_zero, beq_self_eq_true, Bool.true_eq_false]; subst hK hQ) | refine Jr.go ?_) | refine sd ?_)
  exact end1A (fzI _)
 ·repeat (first | (with_reducible first | refine Ju.go ?_ | (refine Hd.go ?_; intro K Q hK hQ; simp only [nod_imm, e_not, Bool.not_true, nod_ptr, e_lA0, Nat.zero_add, lv_cons, List.length_nil, Nat.reduceAdd, Nat.reduceLeDiff, dr_0, tk_s, tk_0, nod_agg, List.map_cons, nodL_imm, nodL_ints, nd_no, nodL_arr, List.map_nil, true_and, e_gF, cond_false]; subst hK hQ) | refine Jr.go ?_) | refine sd ?_)
  refine call_of (c17 p _ sm) ?_
  cases ho : okSp p
  ·repeat (first | (with_reducible first | refine Ju.go ?_ | (refine Hd.go ?_; intro K Q hK hQ; simp only [nod_imm, e_not, Bool.not_false, Try.underlying3, e_lss, e_gF, cond_true, j_one, e_gtr, List.getD_cons_succ, List.getD_cons_zero, e_cond, if_true]; subst hK hQ) | refine Jr.go ?_) | refine sd ?_)
   refine call_of (c15x _) ?_
   repeat (first | (with_reducible first | refine Ju.go ?_ | (refine Hd.go ?_; intro K Q hK hQ; simp only [Try.underlying3, Try.underlying4, Try.underlying5, Try.underlying9, Try.underlying22, Try.underlying23, Try.underlying30, Try.underlying43, Try.underlying44, Try.underlying57, Try.underlying100, Try.underlying124, Try.underlying184, j_one, j_side, j_tl, j_fl, nod_nod, nod_imm, nod_ints, nd_no, nd_own, nd_full, nd_fO, oF_ap, oF_succ, nod_sl, nod_ptr, nod_cptr, nod_fn, nod_junk, nodL_imm, nod_agg, nod_tup, nod2_imm, nod2_agg, cl_imm, cl_ints, cl_agg, e_add, e_sub, e_mul, e_quo, e_rem, e_eql, e_neq, e_lss, e_leq, e_gtr, e_geq, e_beq, e_bne, e_neg, e_not, e_pick, e_cond, e_gT, e_gF, e_len, e_lenA, e_lenS, e_ix, e_ixS, e_ldc, e_ldci, e_fa, rep_cl, rep_I, e_bx, okE_I, okE_B, okE_E8, okE_ints, stV_imm, stV_ints, j_and', j_or', List.getD_cons_zero, List.getD_cons_succ, List.map_cons, List.map_nil, decide_eq_true_eq, Int.toNat_natCast, Nat.mul_one, Nat.zero_add, true_and, and_true, List.length_map, Bool.not_eq_true', decide_eq_false_iff_not, nod_lists, e_lenL, e_ixL, okE_lists, bs1, bs1L, bs2L, e_app, e_appL, e_app0, e_app0L, e_slcLo, e_slcHi, e_slcLH, e_slcHH, e_slcLHH, e_callG, e_callY, e_calmG, e_slS0, e_slSLo, e_slSHi, e_slSLH, e_slSHH, e_slSLHH, e_max2, e_min2, e_max3, e_x20, e_x21, e_x30, e_x31, e_x32, nod2_ints, nod2_lists, rep_fl, bs0, e_nilE, if_true, if_false, cond_true, cond_false, decide_true, decide_false, eq_self, Bool.false_eq_true, false_implies, true_implies, ap_own, ap_full, e_slcLoL, e_slcHiL, e_slcLHL, hp_assoc, hp_cons, hp_nil, hp_len, hp_len_cons, hp_len_nil, lv_cons, lv_nil, vs_0, vs_s, spl_s, spl_0, spl_n, dr_s, dr_0, tk_s, tk_0, e_bxI, e_fac, e_facA, e_ldcA, e_ldcL, e_ldcF, okE_agg, ck_I, ck_B, ck_ints, ck_lists, ck_arr, ck_ptr, ck_cptr, ck_fn, all_c, all_n, stV_agg, stV_lists, stV_arr, stV_ptr, stV_cptr, stV_fn, nodL_ints, nodL_lists, nodL_ptr, nodL_cptr, nodL_fn, nodL_arr0, cl_arr, cl_ptr, cl_cptr, cl_fn, cl_lists, okE_arr, okE_fn, okE_ptr, okE_cptr, e_bd0, e_bd1, e_wr, Nat.reduceAdd, Nat.reduceLeDiff, Nat.reduceEqDiff, Nat.add_zero, Bool.and_self, Bool.true_and, Bool.and_true, e_lc0, e_lA0, e_lM0, e_sc0, e_rc0, e_rA0, e_lI0, e_sI0, e_cI0, e_lc1, e_lA1, e_lM1, e_sc1, e_rc1, e_rA1, e_lI1, e_sI1, e_cI1, e_lc2, e_lA2, e_lM2, e_sc2, e_rc2, e_rA2, e_lI2, e_sI2, e_cI2, e_lc3, e_lA3, e_lM3, e_sc3, e_rc3, e_rA3, e_lI3, e_sI3, e_cI3, e_lc4, e_lA4, e_lM4, e_sc4, e_rc4, e_rA4, e_lI4, e_sI4, e_cI4, e_lc5, e_lA5, e_lM5, e_sc5, e_rc5, e_rA5, e_lI5, e_sI5, e_cI5, own0_arr, own0_ints, own0_lists, own0_imm, own0_ptr, own0_cptr, own0_fn, own0_agg, e_appB, e_appB0, ck_sl, own0_sl, stV_sl, nodL_sl, cl_sl, okE_sl, e_mkM, e_mkI, e_mkIm, e_callB, nod_bfn, nod_ifc, nod_map, nodL_ifc, nodL_bfn, nodL_map, cl_ifc, cl_bfn, ck_ifc, ck_bfn, ck_map, stV_ifc, okE_ifc, okE_bfn, nod_arr, nodL_arr, e_addU, e_mulU, e_shrK, e_shlK, e_andK, e_cv64, e_cv32, e_callEG, e_callEY, e_callEB, e_zr, e_nilSl, e_ncP, e_ncC, e_ncI, e_npnP, e_npeP, e_npnC, e_npeC, e_npnN, e_npeN, e_ixAP, e_ldcP, e_ldcS, e_ldcV, e_ldcT, okE_nilP, ck_nilP, okE_nilI, ck_nilI, okE_str, ck_str, e_tlen, e_tix, e_teq, e_tne, e_tadd, e_tb, e_u8lss, e_u8gtr, noV_full, nod_arr, List.length_map, reduceIte, Int.reduceEq, Int.reduceNeg, ne_eq, not_true_eq_false, not_false_eq_true, Bool.not_true, Bool.not_false, Bool.true_or, Bool.or_true, Bool.false_or, Bool.or_false, Bool.and_true, Bool.and_false, Bool.false_and, Bool.not_not, Bool.or_self, List.length_nil, Int.ofNat_zero, Int.cast_ofNat_Int, Int.natCast_zero, beq_self_eq_true, Bool.true_eq_false]; subst hK hQ) | refine Jr.go ?_) | refine sd ?_)
   exact end1A (fzI _)
  ·repeat (first | (with_reducible first | refine Ju.go ?_ | (refine Hd.go ?_; intro K Q hK hQ; simp only [nod_imm, e_not, Bool.not_true, Try.underlying3, e_lss, e_gF, cond_false, j_one, e_gtr, j_or', List.getD_cons_succ, List.getD_cons_zero, e_cond]; subst hK hQ) | refine Jr.go ?_) | refine sd ?_)
   by_cases hbf : 0 ≤ b ∧ b ≤ 100 ∧ 0 ≤ f ∧ f ≤ 100
   ·obtain ⟨b0, b1, f0, f1⟩ := hbf
    have n1 : ¬ b < 0 := by omega
    have n2 : ¬ (100 : Int) < b := by omega
    have n3 : ¬ f < 0 := by omega
    have n4 : ¬ (100 : Int) < f := by omega
    repeat (first | (with_reducible first | refine Ju.go ?_ | (refine Hd.go ?_; intro K Q hK hQ; simp only [n1, decide_false, n2, Bool.or_self, n3, n4, Bool.false_eq_true, if_false, List.getD_cons_succ, List.getD_cons_zero, nod_ptr, e_fa, Nat.zero_add, e_sc0, Nat.reduceAdd, lv_cons, List.length_nil, Nat.reduceLeDiff, stV_imm, okE_I, cl_imm, spl_s, spl_0, spl_n, true_and, Nat.add_zero, e_lc0, nod_imm, e_bd1, e_bd0, own0_imm, nod_agg, List.map_cons, nodL_imm, List.map_nil, bs_gn, nod_arr, nd_full]; subst hK hQ) | refine Jr.go ?_) | refine sd ?_)
    refine callE_wk (c21 [gF (ef0 p)] _ (show (1 : Nat) ≤ 8 by decide)) (.cons (.full _) .nil) ?_
    rintro v G1 ⟨l1, s1, r1, w1, bw1, a1, rfl, B1⟩
    repeat (first | (with_reducible first | refine Ju.go ?_ | (refine Hd.go ?_; intro K Q hK hQ; simp only [nod_tup, List.map_cons, nod2_agg, nodL_ptr, List.map_nil, nod2_imm, e_x20, e_x21, nod_agg, e_bxI, okE_agg, lv_cons, List.length_nil, Nat.zero_add, Nat.reduceAdd, all_c, ck_ptr, all_n, Bool.and_self, and_true, true_and, List.getD_cons_zero, List.getD_cons_succ, nod_arr, nd_full]; subst hK hQ) | refine Jr.go ?_) | refine sd ?_)
    refine callE_wk (c21 [gF (ef0 p)] _ (show (1 : Nat) ≤ 8 by decide)) (.cons (.full _) .nil) ?_
    rintro v G2 ⟨l2, s2, r2, w2, bw2, a2, rfl, B2⟩
    rw [gs_gF (ef0_ok ho)] at B1 B2
    have T := Two.mk' B1 B2
    have hbx : ∀ {G : Hp} {x1 x2 : Ad} {y1 y2 : Mo}, Two (H ++ [.cells [I p.vo, I p.us, ints p.sm .no, ints p.pe .no, .arr (p.sg.map sgV) .no, I 0]]) G s1 x1 y1 s2 x2 y2 → G[H.length]? = some (.cells [I p.vo, I p.us, ints p.sm .no, ints p.pe .no, .arr (p.sg.map sgV) .no, I 0]) := fun h => (h.lo _ (by simp)).trans (tail0 _ _)
    have bx2 := hbx T
    clear B1 B2
    repeat (first | (with_reducible first | refine Ju.go ?_ | (refine Hd.go ?_; intro K Q hK hQ; simp only [nod_tup, List.map_cons, nod2_agg, nodL_ptr, List.map_nil, nod2_imm, e_x20, e_x21, nod_agg, e_bxI, okE_agg, lv_cons, List.length_nil, Nat.zero_add, Nat.reduceAdd, all_c, ck_ptr, all_n, Bool.and_self, and_true, true_and, List.getD_cons_succ, List.getD_cons_zero, nod_imm, e_not, Bool.not_true, e_gF, cond_false, j_one, e_cond, Bool.false_eq_true, if_false, nod_cptr, e_fac, Nat.reduceLeDiff, e_ldcP, nod_ptr, ldA_at bx2, dr_0, tk_s, tk_0, nodL_imm, nodL_ints, nd_no, nodL_arr]; subst hK hQ) | refine Jr.go ?_) | refine sd ?_)
    refine callE_of (c22 (ef0 p) (ef0_sm sm) T.x (show (0 : Nat) < 200 by decide) ⟨(show (0 : Int) ≤ 0 by decide), (show (0 : Int) ≤ 1000000 by decide)⟩) ?_
    rintro v G3 hq
    rw [if_pos (ef0_ok ho)] at hq
    obtain ⟨rfl, a3, st3⟩ := hq
    have T3 := T.step st3
    have bx3 := hbx T3
    clear T st3 bx2
    repeat (first | (with_reducible first | refine Ju.go ?_ | (refine Hd.go ?_; intro K Q hK hQ; simp only [List.getD_cons_succ, List.getD_cons_zero, nod_cptr, e_fac, Nat.reduceAdd, lv_cons, List.length_nil, Nat.zero_add, Nat.reduceLeDiff, true_and, e_ldcP, nod_ptr, ldA_at bx3, dr_0, tk_s, tk_0, nod_agg, List.map_cons, nodL_imm, nodL_ints, nd_no, nodL_arr, List.map_nil]; subst hK hQ) | refine Jr.go ?_) | refine sd ?_)
    refine callE_of (c22 (ef0 p) (ef0_sm sm) T3.y (show (0 : Nat) < 200 by decide) ⟨(show (0 : Int) ≤ 0 by decide), (show (0 : Int) ≤ 1000000 by decide)⟩) ?_
    rintro v G4 hq
    rw [if_pos (ef0_ok ho)] at hq
    obtain ⟨rfl, a4, st4⟩ := hq
    have T4 := (T3.swap.step st4).swap
    clear T3 st4 bx3
    have ok4 : Mok (mF (ef0 p)) := mF_ok ho
    have e1 : mIns (mo0 [⟨gF (ef0 p), false, 0⟩]).q.length (ef0 p) (mo0 [⟨gF (ef0 p), false, 0⟩]) = mF (ef0 p) := rfl
    rw [e1] at T4
    have ib : inB b 0 100000 = true := inB_iff.2 ⟨b0, by omega⟩
    obtain ⟨B, rfl⟩ : ∃ B : Nat, b = B := ⟨b.toNat, by omega⟩
    obtain ⟨F, rfl⟩ : ∃ F : Nat, f = F := ⟨f.toNat, by omega⟩
    repeat (first | (with_reducible first | refine Ju.go ?_ | (refine Hd.go ?_; intro K Q hK hQ; simp only [List.getD_cons_succ, List.getD_cons_zero, nod_cptr, e_fac, Nat.reduceAdd, lv_cons, List.length_nil, Nat.zero_add, Nat.reduceLeDiff, true_and, e_ldcP, nod_ptr, nod_imm]; subst hK hQ) | refine Jr.go ?_) | refine sd ?_)
    refine callE_of (c23 (B : Int) T4.x ok4 (fun _ => by show (0 : Int) + B ≤ _; omega)) ?_
    rintro v G5 hq
    rw [if_pos ib, Int.toNat_natCast] at hq
    obtain ⟨⟨f5, g5, hf5, hg5, rfl⟩, ⟨a5, st5⟩, ok5, ck5, -⟩ := hq
    have T5 := T4.step st5
    clear T4 st5
    repeat (first | (with_reducible first | refine Ju.go ?_ | (refine Hd.go ?_; intro K Q hK hQ; simp only [nod_tup, List.map_cons, nod2_ints, nod2_imm, List.map_nil, e_x30, e_x31, e_x32, List.getD_cons_zero, List.getD_cons_succ, nod_cptr, e_fac, Nat.reduceAdd, lv_cons, List.length_nil, Nat.zero_add, Nat.reduceLeDiff, true_and, e_ldcP, nod_ptr, nod_imm]; subst hK hQ) | refine Jr.go ?_) | refine sd ?_)
    refine callE_of (c23 (B : Int) T5.y ok4 (fun _ => by show (0 : Int) + B ≤ _; omega)) ?_
    rintro v G6 hq
    rw [if_pos ib, Int.toNat_natCast] at hq
    obtain ⟨⟨f6, g6, hf6, hg6, rfl⟩, ⟨a6, st6⟩, -, -, -⟩ := hq
    have T6 := (T5.swap.step st6).swap
    clear T5 st6
    have h24 := mPull_len (mF (ef0 p)) B
    generalize e2 : mPull B (mF (ef0 p)) = r at *
    have q5 := nd_of hf5
    have q6 := nd_of hf6
    repeat (first | (with_reducible first | refine Ju.go ?_ | (refine Hd.go ?_; intro K Q hK hQ; simp only [nod_tup, List.map_cons, nod2_ints, q6, nod2_imm, List.map_nil, e_x30, e_x31, e_x32, q5, List.getD_cons_succ, List.getD_cons_zero, nod_imm, Try.underlying30, e_neq, decide_true, Bool.not_true, e_gF, cond_false, j_one, nod_ints]; subst hK hQ) | refine Jr.go ?_) | refine sd ?_)
    refine call_of (c24 r.1 r.1 f5 f6 _ (by omega) hf5 hf6) ?_
    rw [decide_eq_true rfl]
    repeat (first | (with_reducible first | refine Ju.go ?_ | (refine Hd.go ?_; intro K Q hK hQ; simp only [nod_imm, e_not, Bool.not_true, List.getD_cons_succ, List.getD_cons_zero, nod_cptr, Try.underlying30, e_fac, Nat.reduceAdd, lv_cons, List.length_nil, Nat.zero_add, Nat.reduceLeDiff, e_ldcP, nod_ptr, true_and, e_gF, cond_false]; subst hK hQ) | refine Jr.go ?_) | refine sd ?_)
    refine callE_of (c25 (F : Int) T6.x ok5) ?_
    rintro v G7 hq
    rw [if_pos (inB_iff.2 ⟨by omega, by omega⟩), Int.toNat_natCast] at hq
    obtain ⟨rfl, st7⟩ := hq
    have T7 := T6.step st7
    have ok7 := ok5.stop F
    have ck7 : (mStop F r.2.1).ck = r.2.1.ck := by unfold mStop; split <;> rfl
    have ck0 : (mF (ef0 p)).ck = 0 := rfl
    clear T6 st7
    repeat (first | (with_reducible first | refine Ju.go ?_ | (refine Hd.go ?_; intro K Q hK hQ; simp only [nod_imm, e_neq, decide_true, Bool.not_true, List.getD_cons_zero, List.getD_cons_succ, e_cond, Bool.false_eq_true, if_false, nod_cptr, e_fac, Nat.reduceAdd, lv_cons, List.length_nil, Nat.zero_add, Nat.reduceLeDiff, true_and, e_ldcP, nod_ptr]; subst hK hQ) | refine Jr.go ?_) | refine sd ?_)
    refine callE_of (c23 100 T7.x ok7 (fun _ => by rw [ck7, ck5, ck0]; omega)) ?_
    rintro v G8 hq
    rw [if_pos (by decide)] at hq
    obtain ⟨⟨f8, g8, hf8, hg8, rfl⟩, ⟨a8, st8⟩, -, -, hnl⟩ := hq
    rw [show Int.toNat 100 = 100 from rfl] at hnl
    have T8 := T7.step st8
    clear T7 st8
    repeat (first | (with_reducible first | refine Ju.go ?_ | (refine Hd.go ?_; intro K Q hK hQ; simp only [nod_tup, List.map_cons, nod2_ints, nod2_imm, List.map_nil, e_x30, e_x31, e_x32, List.getD_cons_succ, List.getD_cons_zero, nod_cptr, e_fac, Nat.reduceAdd, lv_cons, List.length_nil, Nat.zero_add, Nat.reduceLeDiff, true_and, e_ldcP, nod_ptr]; subst hK hQ) | refine Jr.go ?_) | refine sd ?_)
    refine callE_of (c23 100 T8.y ok5 (fun _ => by rw [ck5, ck0]; omega)) ?_
    rintro v G9 hq
    rw [if_pos (by decide)] at hq
    obtain ⟨⟨f9, g9, hf9, hg9, rfl⟩, ⟨a9, st9⟩, -, -, -⟩ := hq
    have T9 := (T8.swap.step st9).swap
    have bx9 := hbx T9
    have hlo : ∀ c, c < H.length → G9[c]? = H[c]? := fun c hc => by rw [T9.lo c (by simp; omega), List.getElem?_append_left hc]
    have hln : H.length ≤ G9.length := by have := T9.ln; simp at this; omega
    clear T8 st9 T9 hbx
    obtain ⟨fx, fy, fA, fB⟩ := fade_law (p := ef0 p) (ef0_ok ho) rfl B F 100 (smB_len (p := p) hs ho) (by decide) (m2 := r.2.1) (m3 := mStop F r.2.1) (xs := (mPull 100 (mStop F r.2.1)).1) (ys := (mPull 100 r.2.1).1) (ns := (mPull 100 (mStop F r.2.1)).2.2) (by rw [e2]) rfl rfl rfl rfl
    rw [show Int.toNat 100 = 100 from rfl]
    generalize (mPull 100 (mStop F r.2.1)).1 = xs at *
    generalize (mPull 100 r.2.1).1 = ys at *
    generalize (mPull 100 (mStop F r.2.1)).2.2 = ns at *
    have q8 := nd_of hf8
    have q9 := nd_of hf9
    have q10 := nd_of hg8
    clear e2 ok5 ok7 ck7 ck5 h24
    have n10 : (V.arr (ns.map nwV) g8).nod2 = .arr (ns.map nwV) g8 := by rcases hg8 with rfl | rfl <;> rfl
    repeat (first | (with_reducible first | refine Ju.go ?_ | (refine Hd.go ?_; intro K Q hK hQ; simp only [nod_tup, List.map_cons, nod2_ints, q9, nod2_imm, List.map_nil, e_x30, e_x31, e_x32, List.getD_cons_zero, List.getD_cons_succ, q8, n10, nod_imm, Try.underlying30, e_neq, decide_true, Bool.not_true, e_gF, cond_false, j_one, nod_ints, e_len, fx, Int.cast_ofNat_Int, Try.underlying3, fy, e_cond, Bool.false_eq_true, if_false, e_gtr, nod_ptr, e_fa, Nat.zero_add, e_gT]; subst hK hQ) | refine Jr.go ?_) | refine sd ?_)
    generalize hR : Rv _ = R
    have key : R (Ab.B (decide (0 < B ∧ B + F < p.sm.length))) G9 := by
     subst hR
     generalize hcut : decide (0 < B ∧ B + F < p.sm.length) = cut
     repeat (first | (with_reducible first | refine Ju.go ?_ | (refine Hd.go ?_; intro K Q hK hQ; simp only [List.getD_cons_zero, List.getD_cons_succ]; subst hK hQ) | refine Jr.go ?_) | refine sd ?_)
     refine loop_of (fun i : Nat => i ≤ 100) (fun i => [I B, I F, ints xs f8, ints ys f9, .arr (ns.map nwV) g8, Ab.B cut, I i]) (fun _ => G9) (fun i => 100 - i) 0 (Nat.zero_le _) rfl rfl ?_
     intro i hi
     repeat (first | (with_reducible first | refine Ju.go ?_ | (refine Hd.go ?_; intro K Q hK hQ; simp only [List.getD_cons_succ, List.getD_cons_zero, nod_imm, Try.underlying3, e_lss, e_cond, decide_eq_true_eq]; subst hK hQ) | refine Jr.go ?_) | refine sd ?_)
     by_cases hlt : i < 100
     ·have d : (i : Int) < 100 := by omega
      have xl : (i : Int) < xs.length := by omega
      have yl : (i : Int) < ys.length := by omega
      cases cut
      ·rw [decide_eq_false_iff_not] at hcut
       have exy := (fA hcut).1
       repeat (first | (with_reducible first | refine Ju.go ?_ | (refine Hd.go ?_; intro K Q hK hQ; simp only [d, if_true, exy, List.getD_cons_succ, List.getD_cons_zero, nod_imm, e_not, Bool.not_false, nod_ints, q8, q9, Try.underlying3, e_ix, Int.toNat_natCast, nod_cptr, e_ldc, e_neq, decide_true, Bool.not_true, e_gT, cond_true, j_side, j_one, nod_nod, e_mul, e_lss, e_neg, e_max2, e_gtr, e_gF, j_fl, decide_eq_false_iff_not, j_or', true_and, j_tl, decide_eq_true_eq, j_and', e_geq, cond_false, e_cond, Bool.false_eq_true, if_false, e_add]; subst hK hQ) | refine Jr.go ?_) | refine sd ?_)
       exact ⟨i + 1, by omega, by rw [exy]; rfl, rfl, by omega⟩
      ·rw [decide_eq_true_eq] at hcut
       have hb := (fB hcut).1 i hlt
       by_cases hfi : F ≤ i
       ·have fle : (F : Int) ≤ i := by omega
        have nfl : ¬ (i : Int) < F := by omega
        have x0 := hb.1 hfi
        repeat (first | (with_reducible first | refine Ju.go ?_ | (refine Hd.go ?_; intro K Q hK hQ; simp only [d, if_true, List.getD_cons_succ, List.getD_cons_zero, nod_imm, e_not, Bool.not_true, nod_ints, q8, q9, Try.underlying3, e_ix, Int.toNat_natCast, nod_cptr, e_ldc, xl, x0, e_neq, true_and, e_gT, cond_false, j_one, nod_nod, e_mul, e_lss, e_neg, e_max2, e_gtr, e_gF, j_fl, decide_eq_false_iff_not, j_or', nfl, decide_false, decide_true, e_geq, fle, cond_true, j_side, e_cond, Bool.false_eq_true, if_false, e_add]; subst hK hQ) | refine Jr.go ?_) | refine sd ?_)
        exact ⟨i + 1, by omega, rfl, rfl, by omega⟩
       ·have nle : ¬ (F : Int) ≤ i := by omega
        have fl : (i : Int) < F := by omega
        obtain ⟨h1, h2, h3, h4⟩ := hb.2 (by omega)
        generalize hx : xs.getD i 0 = x at h1 h2
        generalize hy : ys.getD i 0 = y at h1 h2 h3 h4
        have r1 : R64 (-x) := by unfold R64; omega
        have r2 : R64 (-y) := by unfold R64; omega
        have h5 : x * y ≤ 32768 * 32768 := by
         have e := Int.le_natAbs (a := x * y)
         rw [Int.natAbs_mul] at e
         have : x.natAbs * y.natAbs ≤ 32768 * 32768 := Nat.mul_le_mul (by omega) (by omega)
         omega
        have r3 : R64 (x * y) := by unfold R64; omega
        have h6 : ¬ x * y < 0 := by omega
        have h7 : ¬ max y (0 - y) < max x (0 - x) := by omega
        repeat (first | (with_reducible first | refine Ju.go ?_ | (refine Hd.go ?_; intro K Q hK hQ; simp only [d, if_true, List.getD_cons_succ, List.getD_cons_zero, nod_imm, e_not, Bool.not_true, nod_ints, q8, q9, Try.underlying3, e_ix, yl, Int.toNat_natCast, hy, nod_cptr, e_ldc, true_and, xl, hx, e_neq, e_gT, cond_false, j_one, nod_nod, e_mul, r3, e_lss, h6, decide_false, e_neg, e_max2, e_gtr, h7, e_gF, fl, decide_true, cond_true, j_fl, j_and', Bool.and_true, e_geq, nle, j_side, e_cond, Bool.false_eq_true, if_false, e_add]; subst hK hQ) | refine Jr.go ?_) | refine sd ?_)
        exact ⟨i + 1, by omega, rfl, rfl, by omega⟩
     ·have d : ¬ (i : Int) < 100 := by omega
      repeat (first | (with_reducible first | refine Ju.go ?_ | (refine Hd.go ?_; intro K Q hK hQ; simp only [d, if_false]; subst hK hQ) | refine Jr.go ?_) | refine sd ?_)
      refine loop_of (fun i : Nat => i ≤ ns.length) (fun i => [I B, I F, .arr (ns.map nwV) g8, Ab.B cut, Ab.B ((ns.take i).any (fd5 (B + F))), I i]) (fun _ => G9) (fun i => ns.length - i) 0 (Nat.zero_le _) rfl rfl ?_
      intro i hi
      repeat (first | (with_reducible first | refine Ju.go ?_ | (refine Hd.go ?_; intro K Q hK hQ; simp only [List.getD_cons_succ, List.getD_cons_zero, nod_arr, q10, e_lenA, List.length_map, nod_imm, Try.underlying3, e_lss, e_cond, decide_eq_true_eq]; subst hK hQ) | refine Jr.go ?_) | refine sd ?_)
      by_cases hlt : i < ns.length
      ·have d : (i : Int) < ns.length := by omega
       have hi1 : R64 ((i : Int) + 1) := by unfold R64; omega
       repeat (first | (with_reducible first | refine Ju.go ?_ | (refine Hd.go ?_; intro K Q hK hQ; simp only [d, if_true, List.getD_cons_succ, List.getD_cons_zero, nod_imm, nod_arr, q10, Try.underlying57, Try.underlying3, nod_nod, e_add, ix_nw, Int.toNat_natCast, nod_cptr, e_fac, Nat.reduceAdd, lv_cons, List.length_nil, Nat.zero_add, Nat.reduceLeDiff, e_ldc, e_eql, true_and, e_gT, j_tl, decide_eq_true_eq, j_and', e_gF, j_fl, j_or', j_side, j_one, hi1]; subst hK hQ) | refine Jr.go ?_) | refine sd ?_)
       refine ⟨i + 1, by omega, ?_, rfl, by omega⟩
       show [_, _, _, _, Ab.B ((ns.take (i + 1)).any (fd5 (B + F))), I ((i + 1 : Nat) : Int)] = _
       rw [take_snocA ns default hlt, List.any_append]
       simp only [List.any_cons, List.any_nil, Bool.or_false]
       rfl
      ·have d : ¬ (i : Int) < ns.length := by omega
       have e : ns.take i = ns := List.take_of_length_le (by omega)
       have ea : ns.any (fd5 (B + F)) = cut := by
        cases cut
        ·rw [decide_eq_false_iff_not] at hcut
         rw [List.any_eq_false]
         intro y hy hh
         unfold fd5 at hh
         rw [Bool.and_eq_true, decide_eq_true_eq, decide_eq_true_eq] at hh
         exact (fA hcut).2 y hy hh
        ·rw [decide_eq_true_eq] at hcut
         obtain ⟨y, hy, h1, h2⟩ := (fB hcut).2
         rw [List.any_eq_true]
         refine ⟨y, hy, ?_⟩
         unfold fd5
         rw [Bool.and_eq_true, decide_eq_true_eq, decide_eq_true_eq]
         exact ⟨h1, h2⟩
       have ed : (decide (cut = cut)) = true := decide_eq_true rfl
       rw [e, ea]
       repeat (first | (with_reducible first | refine Ju.go ?_ | (refine Hd.go ?_; intro K Q hK hQ; simp only [d, if_false, List.getD_cons_succ, List.getD_cons_zero, nod_imm, Try.underlying4, e_beq, beq_self_eq_true, e_gT, cond_true]; subst hK hQ) | refine Jr.go ?_) | refine sd ?_)
       refine call_of (c15x _) ?_
       repeat (first | (with_reducible first | refine Ju.go ?_ | (refine Hd.go ?_; intro K Q hK hQ; simp only [nod_imm]; subst hK hQ) | refine Jr.go ?_) | refine sd ?_)
       exact end1T (fzI _) (take_low hlo hln)
    by_cases hB0 : (0 : Int) < B
    ·have rL : R64 ((p.sm.length : Int) - B) := by have := sm.sm; unfold R64; omega
     by_cases hF0 : (F : Int) < (p.sm.length : Int) - B
     ·rw [decide_eq_true (show 0 < B ∧ B + F < p.sm.length from ⟨by omega, by omega⟩)] at key
      repeat (first | (with_reducible first | refine Ju.go ?_ | (refine Hd.go ?_; intro K Q hK hQ; simp only [hB0, decide_true, cond_true, ld_at bx9, Nat.reduceAdd, lv_cons, List.length_nil, Nat.zero_add, Nat.reduceLeDiff, List.getD_cons_succ, List.getD_cons_zero, nod_ints, nd_no, true_and, e_len, nod_imm, e_sub, rL, e_gtr, hF0]; subst hK hQ) | refine Jr.go ?_) | refine sd ?_)
      exact key
     ·rw [decide_eq_false (show ¬ (0 < B ∧ B + F < p.sm.length) from fun h => by omega)] at key
      repeat (first | (with_reducible first | refine Ju.go ?_ | (refine Hd.go ?_; intro K Q hK hQ; simp only [hB0, decide_true, cond_true, ld_at bx9, Nat.reduceAdd, lv_cons, List.length_nil, Nat.zero_add, Nat.reduceLeDiff, List.getD_cons_succ, List.getD_cons_zero, nod_ints, nd_no, true_and, e_len, nod_imm, e_sub, rL, e_gtr, hF0, decide_false]; subst hK hQ) | refine Jr.go ?_) | refine sd ?_)
      exact key
    ·rw [decide_eq_false (show ¬ (0 < B ∧ B + F < p.sm.length) from fun h => by omega)] at key
     repeat (first | (with_reducible first | refine Ju.go ?_ | (refine Hd.go ?_; intro K Q hK hQ; simp only [hB0, decide_false, cond_false]; subst hK hQ) | refine Jr.go ?_) | refine sd ?_)
     exact key
   ·have n1 : (decide (b < 0) || decide (100 < b) || decide (f < 0) || decide (100 < f)) = true := by
     simp only [Bool.or_eq_true, decide_eq_true_eq]; omega
    repeat (first | (with_reducible first | refine Ju.go ?_ | (refine Hd.go ?_; intro K Q hK hQ; simp only [n1, if_true]; subst hK hQ) | refine Jr.go ?_) | refine sd ?_)
    refine call_of (c15x _) ?_
    repeat (first | (with_reducible first | refine Ju.go ?_ | (refine Hd.go ?_; intro K Q hK hQ; simp only [Try.underlying3, Try.underlying4, Try.underlying5, Try.underlying9, Try.underlying22, Try.underlying23, Try.underlying30, Try.underlying43, Try.underlying44, Try.underlying57, Try.underlying100, Try.underlying124, Try.underlying184, j_one, j_side, j_tl, j_fl, nod_nod, nod_imm, nod_ints, nd_no, nd_own, nd_full, nd_fO, oF_ap, oF_succ, nod_sl, nod_ptr, nod_cptr, nod_fn, nod_junk, nodL_imm, nod_agg, nod_tup, nod2_imm, nod2_agg, cl_imm, cl_ints, cl_agg, e_add, e_sub, e_mul, e_quo, e_rem, e_eql, e_neq, e_lss, e_leq, e_gtr, e_geq, e_beq, e_bne, e_neg, e_not, e_pick, e_cond, e_gT, e_gF, e_len, e_lenA, e_lenS, e_ix, e_ixS, e_ldc, e_ldci, e_fa, rep_cl, rep_I, e_bx, okE_I, okE_B, okE_E8, okE_ints, stV_imm, stV_ints, j_and', j_or', List.getD_cons_zero, List.getD_cons_succ, List.map_cons, List.map_nil, decide_eq_true_eq, Int.toNat_natCast, Nat.mul_one, Nat.zero_add, true_and, and_true, List.length_map, Bool.not_eq_true', decide_eq_false_iff_not, nod_lists, e_lenL, e_ixL, okE_lists, bs1, bs1L, bs2L, e_app, e_appL, e_app0, e_app0L, e_slcLo, e_slcHi, e_slcLH, e_slcHH, e_slcLHH, e_callG, e_callY, e_calmG, e_slS0, e_slSLo, e_slSHi, e_slSLH, e_slSHH, e_slSLHH, e_max2, e_min2, e_max3, e_x20, e_x21, e_x30, e_x31, e_x32, nod2_ints, nod2_lists, rep_fl, bs0, e_nilE, if_true, if_false, cond_true, cond_false, decide_true, decide_false, eq_self, Bool.false_eq_true, false_implies, true_implies, ap_own, ap_full, e_slcLoL, e_slcHiL, e_slcLHL, hp_assoc, hp_cons, hp_nil, hp_len, hp_len_cons, hp_len_nil, lv_cons, lv_nil, vs_0, vs_s, spl_s, spl_0, spl_n, dr_s, dr_0, tk_s, tk_0, e_bxI, e_fac, e_facA, e_ldcA, e_ldcL, e_ldcF, okE_agg, ck_I, ck_B, ck_ints, ck_lists, ck_arr, ck_ptr, ck_cptr, ck_fn, all_c, all_n, stV_agg, stV_lists, stV_arr, stV_ptr, stV_cptr, stV_fn, nodL_ints, nodL_lists, nodL_ptr, nodL_cptr, nodL_fn, nodL_arr0, cl_arr, cl_ptr, cl_cptr, cl_fn, cl_lists, okE_arr, okE_fn, okE_ptr, okE_cptr, e_bd0, e_bd1, e_wr, Nat.reduceAdd, Nat.reduceLeDiff, Nat.reduceEqDiff, Nat.add_zero, Bool.and_self, Bool.true_and, Bool.and_true, e_lc0, e_lA0, e_lM0, e_sc0, e_rc0, e_rA0, e_lI0, e_sI0, e_cI0, e_lc1, e_lA1, e_lM1, e_sc1, e_rc1, e_rA1, e_lI1, e_sI1, e_cI1, e_lc2, e_lA2, e_lM2, e_sc2, e_rc2, e_rA2, e_lI2, e_sI2, e_cI2, e_lc3, e_lA3, e_lM3, e_sc3, e_rc3, e_rA3, e_lI3, e_sI3, e_cI3, e_lc4, e_lA4, e_lM4, e_sc4, e_rc4, e_rA4, e_lI4, e_sI4, e_cI4, e_lc5, e_lA5, e_lM5, e_sc5, e_rc5, e_rA5, e_lI5, e_sI5, e_cI5, own0_arr, own0_ints, own0_lists, own0_imm, own0_ptr, own0_cptr, own0_fn, own0_agg, e_appB, e_appB0, ck_sl, own0_sl, stV_sl, nodL_sl, cl_sl, okE_sl, e_mkM, e_mkI, e_mkIm, e_callB, nod_bfn, nod_ifc, nod_map, nodL_ifc, nodL_bfn, nodL_map, cl_ifc, cl_bfn, ck_ifc, ck_bfn, ck_map, stV_ifc, okE_ifc, okE_bfn, nod_arr, nodL_arr, e_addU, e_mulU, e_shrK, e_shlK, e_andK, e_cv64, e_cv32, e_callEG, e_callEY, e_callEB, e_zr, e_nilSl, e_ncP, e_ncC, e_ncI, e_npnP, e_npeP, e_npnC, e_npeC, e_npnN, e_npeN, e_ixAP, e_ldcP, e_ldcS, e_ldcV, e_ldcT, okE_nilP, ck_nilP, okE_nilI, ck_nilI, okE_str, ck_str, e_tlen, e_tix, e_teq, e_tne, e_tadd, e_tb, e_u8lss, e_u8gtr, noV_full, nod_arr, List.length_map, reduceIte, Int.reduceEq, Int.reduceNeg, ne_eq, not_true_eq_false, not_false_eq_true, Bool.not_true, Bool.not_false, Bool.true_or, Bool.or_true, Bool.false_or, Bool.or_false, Bool.and_true, Bool.and_false, Bool.false_and, Bool.not_not, Bool.or_self, List.length_nil, Int.ofNat_zero, Int.cast_ofNat_Int, Int.natCast_zero, beq_self_eq_true, Bool.true_eq_false]; subst hK hQ) | refine Jr.go ?_) | refine sd ?_)
    exact end1A (fzI _)
open Go.ChangeShapes Go.WideShapes Go.ChangeAt Go.RowKit
theorem own : ownKnob Try.prog.godebug = none := by kernel_rfl
theorem laidOut : laidOutB Try.prog = true := by kernel_rfl
set_option maxRecDepth 100000 in
theorem lifted (os : Os) (started : os.Started) (H : Type) (enc : TypeId × Value → H) :
    ReturnsInHanded {} Try.checked os 5 .any (Rows.streamFadesSpec.pre6 enc Try.prog Try.f5 Rows.streamFadesRow.domain false) (Rows.streamFadesSpec.post enc Try.prog Try.f5 false true false false) := by
  refine returnsInHanded_of_change (C := Try.checked) own started (by kernel_rfl) Try.func5
    (ChangeSpec.witness6 (enc := enc) (C := Try.checked) false ⟨#[], #[.agg #[.int .i64 0, .int .i64 0, .slice none 0 0, .slice none 0 0, .slice none 0 0, .int .i64 0], .int .i64 0, .int .i64 0], []⟩ 8 (by kernel_rfl) (by kernel_rfl) (by kernel_rfl) (by kernel_rfl)) ?_
  intro W base args ds gs before hval0 hW hcnd _
  have hval : ∀ (j : Nat) t v, Try.f5.params[j]? = some t → args[j]? = some v → Value.okWide Try.prog W .any base t v := hval0
  have hW' := hW
  obtain ⟨p, q, hA0, hV, rfl, hfz, hnd⟩ := hW
  have hA : DataW.TrodAll enc Try.prog W 0 (fun _ => true) true Try.f5.params.toList args.toList ds p := hA0
  rw [Try.params5] at hA hval
  obtain ⟨v0, vs0, d0, ds0, p0, q0, hargs, rfl, rfl, h0, r0⟩ := trodAll_cons hA
  obtain ⟨v1, vs1, d1, ds1, p1, q1, rfl, rfl, rfl, h1, r1⟩ := trodAll_cons r0
  obtain ⟨v2, vs2, d2, ds2, p2, q2, rfl, rfl, rfl, h2, r2⟩ := trodAll_cons r1
  obtain ⟨rfl, rfl, rfl⟩ := trodAll_nil r2
  obtain rfl : args = #[v0, v1, v2] := by cases args; simp_all
  obtain ⟨rfl, rfl⟩ := trodVars_none hV
  have lt0 : ∀ x ∈ p0, x.block < W.heap.size := by obtain ⟨m, hm⟩ := h0; exact DataW.trod_lt m _ _ _ hm
  obtain ⟨l0, w0, e0⟩ := in_sp (hval 0 _ v0 rfl rfl) h0
  have lt1 : ∀ x ∈ p1, x.block < W.heap.size := by obtain ⟨m, hm⟩ := h1; exact DataW.trod_lt m _ _ _ hm
  obtain ⟨n1, e1, w1⟩ := in_int Try.underlying3 (hval 1 _ v1 rfl rfl) h1
  have lt2 : ∀ x ∈ p2, x.block < W.heap.size := by obtain ⟨m, hm⟩ := h2; exact DataW.trod_lt m _ _ _ hm
  obtain ⟨n2, e2, w2⟩ := in_int Try.underlying3 (hval 2 _ v2 rfl rfl) h2
  clear hA0 hval0
  refine (bridge (args := [spV l0, I n1, I n2]) (ra := #[v0, v1, v2]) (c5 l0 n1 n2 [] w0) rfl (by intro a ha; simp at ha; rcases ha with rfl | rfl | rfl <;> rfl) (fun i => ?_)).mono fun e W' ⟨he, bel⟩ => ?_
  · match i with
    | 0 => exact e0
    | 1 => exact e1
    | 2 => exact e2
    | i + 3 => exact .junk _
  · subst he
    exact ⟨_, rfl, _, _, _, [], _, [], hW', trodAll_mk1 (shut_bool Try.underlying4 _), (trodAll_cons_mk (Below.trod laidOut (by kernel_rfl) (of_decide_eq_true (by kernel_rfl)) h0 bel lt0) (trodAll_cons_mk (Below.trod laidOut (by kernel_rfl) (of_decide_eq_true (by kernel_rfl)) h1 bel lt1) (trodAll_cons_mk (Below.trod laidOut (by kernel_rfl) (of_decide_eq_true (by kernel_rfl)) h2 bel lt2) trodAll_mk0))), rfl, bel.frame _, fun h => by cases h⟩
theorem over : Rows.streamFadesRow.holds Try.pinned (OpenSpec.ofChange Rows.streamFadesSpec) :=
 OpenClaim.holds_of_wide 5 Try.f5 rfl rfl rfl rfl rfl rfl rfl ⟨rfl, rfl, rfl, rfl, rfl⟩ rfl rfl rfl rfl rfl (by kernel_rfl) Try.func5 (by kernel_rfl)
  (of_decide_eq_true (by kernel_rfl)) (by unfold Func.isWrapper; first | (rw [if_pos (by decide +kernel)]; kernel_rfl) | (rw [if_neg (by decide +kernel)]; exact ⟨rfl, rfl⟩))
  (fun os started H enc _ => lifted os started H enc)
theorem streamFades_holds : Rows.StreamFadesSaid := over
#print axioms streamFades_holds
end Go.Proofs.Ytlnjhnemmemloaa
