import Derived.Test.YtehjfjdknllmhaaAb23
import Derived.Test.YtehjfjdknllmhaaProg
import Derived.Test.YtehjfjdknllmhaaJV1
set_option linter.unusedVariables false
set_option maxRecDepth 20000
set_option maxHeartbeats 4000000
namespace Go.Proofs.Ytehjfjdknllmhaa
open Go Go.Ab Go.Proofs
/- declaim/declaimlaw07.JoinStretches -/
def an7 : An := { imm := [3], jn := [(4, [1, 2, 3, 7, 8]), (6, [1, 2, 3, 7, 8, 9, 10, 11, 12]), (8, [1, 2, 3, 7, 8, 9, 10, 11, 12, 13, 51]), (9, [1, 2, 3, 7, 8, 9, 10, 11, 12, 13]), (11, [1, 2, 3, 7, 8, 9, 10, 11, 12]), (12, [1, 2, 7, 8, 9, 10, 11, 12, 14, 15])], lp := [], loud := [], ord := [(11, [(8, 9)], [[0, 1, 2, 3, 4, 5, 6, 7, 9, 8, 10, 11], [0, 1, 2, 3, 4, 5, 6, 7, 8, 9, 10, 11]])] }
def vc7 (C : Cb) (a0 a1 a2 : V) (H : Hp) (R : List V → Hp → Prop) : Prop :=
 C.aBx true 2 a0.nod H fun (v1 : V) (H2 : Hp) =>
 C.aLd 2 true false v1.nod H2 fun (v3 : V) (H4 : Hp) =>
 C.call 33 [v3.nod] H4 fun (v5 : V) (H6 : Hp) =>
 C.aUn .not v5.nod fun (v7 : V) =>
 aCond v7.nod (
 C.call 18 [] H6 fun (v8 : V) (H9 : Hp) =>
 R [v8] H9) (
 Jn (fun (l10 : List V) (H11 : Hp) =>
 C.aLd 2 true false (l10.getD 2 .junk).nod H11 fun (v13 : V) (H14 : Hp) =>
 C.call 28 [v13.nod, (l10.getD 0 .junk).nod.nod, (l10.getD 1 .junk).nod.nod] H14 fun (v15 : V) (H16 : Hp) =>
 C.aExt 0 v15.nod.nod fun (v17 : V) =>
 C.aExt 1 v15.nod.nod fun (v18 : V) =>
 C.aBx false 2 (V.agg [(V.arr [] .full), (V.arr [] .full)]) H16 fun (v19 : V) (H20 : Hp) =>
 C.aSt 2 v19.nod v17 H20 fun (v21 : V) (H22 : Hp) =>
 Jn (fun (l23 : List V) (H24 : Hp) =>
 C.aLd 2 true false (l23.getD 2 .junk).nod H24 fun (v26 : V) (H27 : Hp) =>
 C.call 30 [v26.nod] H27 fun (v28 : V) (H29 : Hp) =>
 Jn (fun (l30 : List V) (H31 : Hp) =>
 Jn (fun (l33 : List V) (H34 : Hp) =>
 Jn (fun (l36 : List V) (H37 : Hp) =>
 C.aLd 2 true false (l36.getD 9 .junk).nod H37 fun (v39 : V) (H40 : Hp) =>
 C.call 35 [v39.nod, (l36.getD 0 .junk).nod.nod, (l36.getD 1 .junk).nod.nod] H40 fun (v41 : V) (H42 : Hp) =>
 C.aBx false 2 (V.agg [(V.arr [] .full), (V.arr [] .full)]) H42 fun (v43 : V) (H44 : Hp) =>
 C.aSt 2 v43.nod v41 H44 fun (v45 : V) (H46 : Hp) =>
 C.aBin (Try.prog.underlying 25) .eql (l36.getD 3 .junk).nod.nod (I 0) fun (v47 : V) =>
 Jv (fun (v48 : V) (H49 : Hp) =>
 Jv (fun (v52 : V) (H53 : Hp) =>
 Jv (fun (v56 : V) (H57 : Hp) =>
 Jv (fun (v65 : V) (H66 : Hp) =>
 Jv (fun (v74 : V) (H75 : Hp) =>
 Jv (fun (v83 : V) (H84 : Hp) =>
 Jv (fun (v90 : V) (H91 : Hp) =>
 Jv (fun (v97 : V) (H98 : Hp) =>
 Jv (fun (v104 : V) (H105 : Hp) =>
 R [v104] H105)
 (fun (R106 : V → Hp → Prop) =>
 aG v97.nod true (
 C.call 18 [] H98 fun (v107 : V) (H108 : Hp) =>
 R106 v107.nod H108) (
 R106 (B false) H98)))
 (fun (R99 : V → Hp → Prop) =>
 aG v90.nod true (
 C.aLd 2 true false (l36.getD 6 .junk).nod H91 fun (v100 : V) (H101 : Hp) =>
 C.call 37 [v100.nod] H101 fun (v102 : V) (H103 : Hp) =>
 R99 v102.nod H103) (
 R99 (B false) H91)))
 (fun (R92 : V → Hp → Prop) =>
 aG v83.nod true (
 C.aLd 2 true false (l36.getD 4 .junk).nod H84 fun (v93 : V) (H94 : Hp) =>
 C.call 37 [v93.nod] H94 fun (v95 : V) (H96 : Hp) =>
 R92 v95.nod H96) (
 R92 (B false) H84)))
 (fun (R85 : V → Hp → Prop) =>
 aG v74.nod true (
 C.aLd 2 true false (l36.getD 2 .junk).nod H75 fun (v86 : V) (H87 : Hp) =>
 C.call 37 [v86.nod] H87 fun (v88 : V) (H89 : Hp) =>
 R85 v88.nod H89) (
 R85 (B false) H75)))
 (fun (R76 : V → Hp → Prop) =>
 aG v65.nod true (
 C.aLd 2 true false (l36.getD 6 .junk).nod H66 fun (v77 : V) (H78 : Hp) =>
 C.aLd 2 true false v43.nod H78 fun (v79 : V) (H80 : Hp) =>
 C.call 31 [v77.nod, v79.nod] H80 fun (v81 : V) (H82 : Hp) =>
 R76 v81.nod H82) (
 R76 (B false) H66)))
 (fun (R67 : V → Hp → Prop) =>
 aG v56.nod true (
 C.aLd 2 true false (l36.getD 4 .junk).nod H57 fun (v68 : V) (H69 : Hp) =>
 C.aLd 2 true false (l36.getD 9 .junk).nod H69 fun (v70 : V) (H71 : Hp) =>
 C.call 31 [v68.nod, v70.nod] H71 fun (v72 : V) (H73 : Hp) =>
 R67 v72.nod H73) (
 R67 (B false) H57)))
 (fun (R58 : V → Hp → Prop) =>
 aG v52.nod true (
 C.aLd 2 true false (l36.getD 2 .junk).nod H53 fun (v59 : V) (H60 : Hp) =>
 C.aLd 2 true false (l36.getD 8 .junk).nod H60 fun (v61 : V) (H62 : Hp) =>
 C.call 31 [v59.nod, v61.nod] H62 fun (v63 : V) (H64 : Hp) =>
 R58 v63.nod H64) (
 R58 (B false) H53)))
 (fun (R54 : V → Hp → Prop) =>
 aG v48.nod true (
 C.aBin (Try.prog.underlying 25) .eql (l36.getD 7 .junk).nod.nod (I 0) fun (v55 : V) =>
 R54 v55.nod H49) (
 R54 (B false) H49)))
 (fun (R50 : V → Hp → Prop) =>
 aG v47.nod true (
 C.aBin (Try.prog.underlying 25) .eql (l36.getD 5 .junk).nod.nod (I 0) fun (v51 : V) =>
 R50 v51.nod H46) (
 R50 (B false) H46)))
 (fun (R38 : List V → Hp → Prop) =>
 (C.aLd 2 true false (l33.getD 2 .junk).nod H34 fun (v109 : V) (H110 : Hp) =>
 C.calm 35 [v109.nod, (l33.getD 0 .junk).nod.nod, (l33.getD 1 .junk).nod.nod] H110 fun (v111 : V) =>
 C.aLd 2 true false (l33.getD 2 .junk).nod H110 fun (v112 : V) (H113 : Hp) =>
 C.calm 36 [v112.nod, (l33.getD 0 .junk).nod.nod, (l33.getD 1 .junk).nod.nod] H113 fun (v114 : V) =>
 C.aBx false 2 (V.agg [(V.arr [] .full), (V.arr [] .full)]) H113 fun (v115 : V) (H116 : Hp) =>
 C.aBx false 2 (V.agg [(V.arr [] .full), (V.arr [] .full)]) H116 fun (v117 : V) (H118 : Hp) =>
 C.aSt 2 v117.nod v111 H118 fun (v119 : V) (H120 : Hp) =>
 C.aSt 2 v115.nod v114 H120 fun (v121 : V) (H122 : Hp) =>
 R38 [(l33.getD 0 .junk), (l33.getD 1 .junk), (l33.getD 3 .junk), (l33.getD 4 .junk), (l33.getD 5 .junk), (l33.getD 6 .junk), (l33.getD 7 .junk), (l33.getD 8 .junk), v117, v115] H122) ∧ (C.aLd 2 true false (l33.getD 2 .junk).nod H34 fun (v123 : V) (H124 : Hp) =>
 C.calm 35 [v123.nod, (l33.getD 0 .junk).nod.nod, (l33.getD 1 .junk).nod.nod] H124 fun (v125 : V) =>
 C.aLd 2 true false (l33.getD 2 .junk).nod H124 fun (v126 : V) (H127 : Hp) =>
 C.calm 36 [v126.nod, (l33.getD 0 .junk).nod.nod, (l33.getD 1 .junk).nod.nod] H127 fun (v128 : V) =>
 C.aBx false 2 (V.agg [(V.arr [] .full), (V.arr [] .full)]) H127 fun (v129 : V) (H130 : Hp) =>
 C.aBx false 2 (V.agg [(V.arr [] .full), (V.arr [] .full)]) H130 fun (v131 : V) (H132 : Hp) =>
 C.aSt 2 v129.nod v125 H132 fun (v133 : V) (H134 : Hp) =>
 C.aSt 2 v131.nod v128 H134 fun (v135 : V) (H136 : Hp) =>
 R38 [(l33.getD 0 .junk), (l33.getD 1 .junk), (l33.getD 3 .junk), (l33.getD 4 .junk), (l33.getD 5 .junk), (l33.getD 6 .junk), (l33.getD 7 .junk), (l33.getD 8 .junk), v129, v131] H136)))
 (fun (R35 : List V → Hp → Prop) =>
 C.aBin (Try.prog.underlying 25) .neq (l30.getD 9 .junk).nod.nod (I 0) fun (v137 : V) =>
 aCond v137.nod (
 C.aBin (Try.prog.underlying 25) .eql (l30.getD 4 .junk).nod.nod (l30.getD 9 .junk).nod.nod fun (v138 : V) =>
 Jv (fun (v139 : V) (H140 : Hp) =>
 Jv (fun (v143 : V) (H144 : Hp) =>
 Jv (fun (v147 : V) (H148 : Hp) =>
 Jv (fun (v154 : V) (H155 : Hp) =>
 Jv (fun (v161 : V) (H162 : Hp) =>
 Jv (fun (v168 : V) (H169 : Hp) =>
 R [v168] H169)
 (fun (R170 : V → Hp → Prop) =>
 aG v161.nod true (
 C.call 18 [] H162 fun (v171 : V) (H172 : Hp) =>
 R170 v171.nod H172) (
 R170 (B false) H162)))
 (fun (R163 : V → Hp → Prop) =>
 aG v154.nod true (
 C.aLd 2 true false (l30.getD 7 .junk).nod H155 fun (v164 : V) (H165 : Hp) =>
 C.call 29 [v164.nod] H165 fun (v166 : V) (H167 : Hp) =>
 R163 v166.nod H167) (
 R163 (B false) H155)))
 (fun (R156 : V → Hp → Prop) =>
 aG v147.nod true (
 C.aLd 2 true false (l30.getD 5 .junk).nod H148 fun (v157 : V) (H158 : Hp) =>
 C.call 29 [v157.nod] H158 fun (v159 : V) (H160 : Hp) =>
 R156 v159.nod H160) (
 R156 (B false) H148)))
 (fun (R149 : V → Hp → Prop) =>
 aG v143.nod true (
 C.aLd 2 true false (l30.getD 3 .junk).nod H144 fun (v150 : V) (H151 : Hp) =>
 C.call 29 [v150.nod] H151 fun (v152 : V) (H153 : Hp) =>
 R149 v152.nod H153) (
 R149 (B false) H144)))
 (fun (R145 : V → Hp → Prop) =>
 aG v139.nod true (
 C.aBin (Try.prog.underlying 25) .eql (l30.getD 8 .junk).nod.nod (l30.getD 9 .junk).nod.nod fun (v146 : V) =>
 R145 v146.nod H140) (
 R145 (B false) H140)))
 (fun (R141 : V → Hp → Prop) =>
 aG v138.nod true (
 C.aBin (Try.prog.underlying 25) .eql (l30.getD 6 .junk).nod.nod (l30.getD 9 .junk).nod.nod fun (v142 : V) =>
 R141 v142.nod H31) (
 R141 (B false) H31))) (
 R35 [(l30.getD 0 .junk), (l30.getD 1 .junk), (l30.getD 2 .junk), (l30.getD 3 .junk), (l30.getD 4 .junk), (l30.getD 5 .junk), (l30.getD 6 .junk), (l30.getD 7 .junk), (l30.getD 8 .junk)] H31)))
 (fun (R32 : List V → Hp → Prop) =>
 Jn (fun (l173 : List V) (H174 : Hp) =>
 aCond (l173.getD 10 .junk).nod (
 R32 [(l173.getD 0 .junk), (l173.getD 1 .junk), (l173.getD 2 .junk), (l173.getD 3 .junk), (l173.getD 4 .junk), (l173.getD 5 .junk), (l173.getD 6 .junk), (l173.getD 7 .junk), (l173.getD 8 .junk), (I 2)] H174) (
 R32 [(l173.getD 0 .junk), (l173.getD 1 .junk), (l173.getD 2 .junk), (l173.getD 3 .junk), (l173.getD 4 .junk), (l173.getD 5 .junk), (l173.getD 6 .junk), (l173.getD 7 .junk), (l173.getD 8 .junk), (l173.getD 9 .junk)] H174))
 (fun (R175 : List V → Hp → Prop) =>
 C.aBin (Try.prog.underlying 25) .eql v28.nod.nod (I 0) fun (v176 : V) =>
 Jv (fun (v177 : V) (H178 : Hp) =>
 R175 [(l23.getD 0 .junk), (l23.getD 1 .junk), (l23.getD 2 .junk), (l23.getD 3 .junk), (l23.getD 4 .junk), (l23.getD 5 .junk), (l23.getD 6 .junk), (l23.getD 7 .junk), (l23.getD 8 .junk), v28, v177] H178)
 (fun (R179 : V → Hp → Prop) =>
 aG v176.nod true (
 C.call 26 [(l23.getD 0 .junk).nod.nod, (l23.getD 1 .junk).nod.nod] H29 fun (v180 : V) (H181 : Hp) =>
 C.aUn .not v180.nod fun (v182 : V) =>
 R179 v182.nod H181) (
 R179 (B false) H29)))))
 (fun (R25 : List V → Hp → Prop) =>
 C.aLd 2 true false (l10.getD 2 .junk).nod H22 fun (v183 : V) (H184 : Hp) =>
 C.call 34 [v183.nod, (l10.getD 0 .junk).nod.nod, (l10.getD 1 .junk).nod.nod] H184 fun (v185 : V) (H186 : Hp) =>
 C.aExt 0 v185.nod.nod fun (v187 : V) =>
 C.aExt 1 v185.nod.nod fun (v188 : V) =>
 C.aBx false 2 (V.agg [(V.arr [] .full), (V.arr [] .full)]) H186 fun (v189 : V) (H190 : Hp) =>
 C.aSt 2 v189.nod v187 H190 fun (v191 : V) (H192 : Hp) =>
 R25 [(l10.getD 0 .junk), (l10.getD 1 .junk), (l10.getD 2 .junk), (l10.getD 3 .junk), (l10.getD 4 .junk), v19, v18, v189, v188] H192))
 (fun (R12 : List V → Hp → Prop) =>
 C.aLd 2 true false v1.nod H6 fun (v193 : V) (H194 : Hp) =>
 C.call 27 [v193.nod, a1.nod.nod, a2.nod.nod] H194 fun (v195 : V) (H196 : Hp) =>
 C.aExt 0 v195.nod.nod fun (v197 : V) =>
 C.aExt 1 v195.nod.nod fun (v198 : V) =>
 C.aBx false 2 (V.agg [(V.arr [] .full), (V.arr [] .full)]) H196 fun (v199 : V) (H200 : Hp) =>
 C.aSt 2 v199.nod v197 H200 fun (v201 : V) (H202 : Hp) =>
 R12 [a1, a2, v1, v199, v198] H202))
theorem wf7 : (Nat.ble 3 Try.f7.ntmps && wfC an7 Try.f7.ntmps (Try.f7.body.getD .skip)) = true := by kernel_rfl
theorem tie7 (C : Cb) (a0 a1 a2 : V) (H : Hp) (R : List V → Hp → Prop) : wpG Try.prog C an7 (Try.f7.body.getD .skip) (argF [a0, a1, a2]) H (retG Try.prog C Try.f7 R) (fun _ _ _ => False) (retG Try.prog C Try.f7 R) = vc7 C a0 a1 a2 H R := by kernel_rfl
theorem mk7 (a0 a1 a2 : V) {H : Hp} {v : V} {H1 : Hp} (hd : v.Nd) (hn : H.length ≤ H1.length) (hb : H1 = H ∨ ∀ (b : Nat) (blk : Blk), H1[b]? = some blk → H[b]? = some blk ∨ BelB H1.length blk) (h : vc7 (real Try.prog) a0 a1 a2 H (retF v H1)) : Ret Try.prog 7 [a0, a1, a2] H v H1 :=
  ret_mk (an := an7) hm Try.call7 Try.func7 rfl wf7 hd hn hb (Eq.mpr (tie7 (real Try.prog) a0 a1 a2 H (retF v H1)) h)
theorem mko7 (a0 a1 a2 : V) {H : Hp} {xs : List V} {H1 : Hp} (hn : H.length ≤ H1.length) (hb : H1 = H ∨ ∀ (b : Nat) (blk : Blk), H1[b]? = some blk → H[b]? = some blk ∨ BelB H1.length blk) (h : vc7 (real Try.prog) a0 a1 a2 H (retO xs H1)) : Ret Try.prog 7 [a0, a1, a2] H (.arr xs .own) H1 :=
  ret_mko (an := an7) (t := 6) hm Try.call7 Try.func7 rfl wf7 rfl hn hb (Eq.mpr (tie7 (real Try.prog) a0 a1 a2 H (retO xs H1)) h)

end Go.Proofs.Ytehjfjdknllmhaa
