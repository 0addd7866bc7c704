/- The theorem of syllables: true for every input. -/
import Derived.Test.YtgicpobploinhaaP6
import Derived.Test.YtgicpobploinhaaProg
import Derived.Test.YtgicpobploinhaaRows
set_option linter.unusedVariables false
set_option maxRecDepth 20000
set_option maxHeartbeats 4000000
namespace Go.Proofs.Ytgicpobploinhaa
open Go Go.Ab Go.Proofs
def an4 : An := { imm := [2], jn := [(2, [1, 2, 36]), (5, [1, 2, 5, 54]), (9, [1, 2, 5, 7, 8]), (11, [1, 2, 5, 7, 8, 86]), (16, [1, 2, 5, 7, 8, 9, 114]), (18, [1, 2, 5, 8, 155]), (22, [1, 2, 5, 7, 8, 10]), (25, [1, 2, 5, 7, 8, 10, 205])], lp := [(8, [1, 2, 5, 7, 8]), (13, [1, 2, 5, 7, 8, 9]), (22, [1, 2, 5, 7, 8, 10])], loud := [], ord := [] }
def vc4 (C : Cb) (a0 a1 : V) (H : Hp) (R : List V → Hp → Prop) : Prop :=
 C.aBx true 3 a0.nod H fun v1 H2 =>
 Jn (fun l3 H4 =>
 aCond (l3.getD 2 .junk).nod (
 C.callE 15 [] H4 fun v6 H7 =>
 R [v6] H7) (
 C.aLd 3 true false (l3.getD 1 .junk).nod H4 fun v8 H9 =>
 C.callE 16 [v8.nod, (l3.getD 0 .junk).nod.nod] H9 fun v10 H11 =>
 C.aExt 0 v10.nod.nod fun v12 =>
 C.aExt 1 v10.nod.nod fun v13 =>
 Jn (fun l14 H15 =>
 aCond (l14.getD 3 .junk).nod (
 R [(B false)] H15) (
 LoopA (fun l17 H18 K19 =>
 C.aLen (l17.getD 2 .junk).nod.nod fun v20 =>
 C.aBin (Try.prog.underlying 3) .lss (l17.getD 4 .junk).nod.nod v20.nod fun v21 =>
 aCond v21.nod (
 Jn (fun l22 H23 =>
 C.aBin (Try.prog.underlying 3) .add (l22.getD 4 .junk).nod.nod (I 1) fun v25 =>
 K19 [(l22.getD 0 .junk), (l22.getD 1 .junk), (l22.getD 2 .junk), (l22.getD 3 .junk), v25] H23)
 (fun R24 =>
 Jn (fun l26 H27 =>
 aCond (l26.getD 5 .junk).nod (
 R [(B false)] H27) (
 C.aIx 3 (l26.getD 2 .junk).nod.nod (l26.getD 4 .junk).nod.nod fun v29 =>
 C.aFA 0 1 false v29.nod fun v30 =>
 C.aLd 1 false false v30.nod H27 fun v31 H32 =>
 LoopA (fun l33 H34 K35 =>
 C.aIx 3 (l33.getD 2 .junk).nod.nod (l33.getD 4 .junk).nod.nod fun v36 =>
 C.aFA 2 1 false v36.nod fun v37 =>
 C.aLd 1 false false v37.nod H34 fun v38 H39 =>
 C.aBin (Try.prog.underlying 3) .lss (l33.getD 5 .junk).nod.nod v38.nod fun v40 =>
 aCond v40.nod (
 Jn (fun l41 H42 =>
 aCond (l41.getD 6 .junk).nod (
 R [(B false)] H42) (
 C.aBin (Try.prog.underlying 3) .add (l41.getD 5 .junk).nod.nod (I 1) fun v44 =>
 K35 [(l41.getD 0 .junk), (l41.getD 1 .junk), (l41.getD 2 .junk), (l41.getD 3 .junk), (l41.getD 4 .junk), v44] H42))
 (fun R43 =>
 C.aLd 3 true false (l33.getD 1 .junk).nod H39 fun v45 H46 =>
 C.aIx 1 (l33.getD 0 .junk).nod.nod (l33.getD 5 .junk).nod.nod fun v47 =>
 C.aLd 1 false false v47.nod H46 fun v48 H49 =>
 C.calm 20 [v45.nod, v48.nod] H49 fun v50 =>
 C.aIx 3 (l33.getD 2 .junk).nod.nod (l33.getD 4 .junk).nod.nod fun v51 =>
 C.aFA 1 1 false v51.nod fun v52 =>
 C.aLd 1 false false v52.nod H49 fun v53 H54 =>
 C.aBin (Try.prog.underlying 3) .eql (l33.getD 5 .junk).nod.nod v53.nod fun v55 =>
 C.aBin (Try.prog.underlying 4) .neq v50.nod v55.nod fun v56 =>
 R43 [(l33.getD 0 .junk), (l33.getD 1 .junk), (l33.getD 2 .junk), (l33.getD 3 .junk), (l33.getD 4 .junk), (l33.getD 5 .junk), v56] H54)) (
 Jn (fun l57 H58 =>
 aCond (l57.getD 4 .junk).nod (
 R [(B false)] H58) (
 C.aIx 3 (l57.getD 2 .junk).nod.nod (l57.getD 3 .junk).nod.nod fun v60 =>
 C.aFA 2 1 false v60.nod fun v61 =>
 C.aLd 1 false false v61.nod H58 fun v62 H63 =>
 C.aBin (Try.prog.underlying 3) .eql (l57.getD 3 .junk).nod.nod (I 0) fun v64 =>
 aCond v64.nod (
 R24 [(l57.getD 0 .junk), (l57.getD 1 .junk), (l57.getD 2 .junk), v62, (l57.getD 3 .junk)] H63) (
 Jn (fun l65 H66 =>
 LoopA (fun l68 H69 K70 =>
 C.aIx 3 (l68.getD 2 .junk).nod.nod (l68.getD 4 .junk).nod.nod fun v71 =>
 C.aFA 1 1 false v71.nod fun v72 =>
 C.aLd 1 false false v72.nod H69 fun v73 H74 =>
 C.aBin (Try.prog.underlying 3) .leq (l68.getD 5 .junk).nod.nod v73.nod fun v75 =>
 aCond v75.nod (
 Jn (fun l76 H77 =>
 aCond (l76.getD 6 .junk).nod (
 R [(B false)] H77) (
 C.aBin (Try.prog.underlying 3) .add (l76.getD 5 .junk).nod.nod (I 1) fun v79 =>
 K70 [(l76.getD 0 .junk), (l76.getD 1 .junk), (l76.getD 2 .junk), (l76.getD 3 .junk), (l76.getD 4 .junk), v79] H77))
 (fun R78 =>
 C.aLd 3 true false (l68.getD 1 .junk).nod H74 fun v80 H81 =>
 C.aIx 3 (l68.getD 2 .junk).nod.nod (l68.getD 4 .junk).nod.nod fun v82 =>
 C.aFA 1 1 false v82.nod fun v83 =>
 C.aLd 1 false false v83.nod H81 fun v84 H85 =>
 C.aSlc 1 (l68.getD 0 .junk).nod.nod (some (l68.getD 5 .junk).nod.nod) (some v84.nod) none fun v86 =>
 C.calm 21 [v80.nod, v86.nod] H85 fun v87 =>
 C.aIx 3 (l68.getD 2 .junk).nod.nod (l68.getD 4 .junk).nod.nod fun v88 =>
 C.aFA 0 1 false v88.nod fun v89 =>
 C.aLd 1 false false v89.nod H85 fun v90 H91 =>
 C.aBin (Try.prog.underlying 3) .eql (l68.getD 5 .junk).nod.nod v90.nod fun v92 =>
 C.aBin (Try.prog.underlying 4) .neq v87.nod v92.nod fun v93 =>
 Jv (fun v94 H95 =>
 R78 [(l68.getD 0 .junk), (l68.getD 1 .junk), (l68.getD 2 .junk), (l68.getD 3 .junk), (l68.getD 4 .junk), (l68.getD 5 .junk), v94] H95)
 (fun R96 =>
 aG v93.nod true (
 C.aIx 3 (l68.getD 2 .junk).nod.nod (l68.getD 4 .junk).nod.nod fun v97 =>
 C.aFA 0 1 false v97.nod fun v98 =>
 C.aLd 1 false false v98.nod H91 fun v99 H100 =>
 C.aBin (Try.prog.underlying 3) .leq (l68.getD 5 .junk).nod.nod v99.nod fun v101 =>
 R96 v101.nod H100) (
 R96 (B false) H91)))) (
 R24 [(l68.getD 0 .junk), (l68.getD 1 .junk), (l68.getD 2 .junk), (l68.getD 3 .junk), (l68.getD 4 .junk)] H74))
 [(l65.getD 0 .junk), (l65.getD 1 .junk), (l65.getD 2 .junk), (l65.getD 3 .junk), (l65.getD 4 .junk), (l65.getD 5 .junk)] H66)
 (fun R67 =>
 C.aBin (Try.prog.underlying 3) .sub (l57.getD 3 .junk).nod.nod (I 1) fun v102 =>
 C.aIx 3 (l57.getD 2 .junk).nod.nod v102.nod fun v103 =>
 C.aFA 1 1 false v103.nod fun v104 =>
 C.aLd 1 false false v104.nod H63 fun v105 H106 =>
 C.aBin (Try.prog.underlying 3) .add v105.nod (I 1) fun v107 =>
 R67 [(l57.getD 0 .junk), (l57.getD 1 .junk), (l57.getD 2 .junk), v62, (l57.getD 3 .junk), v107] H106))))
 (fun R59 =>
 C.aIx 3 (l33.getD 2 .junk).nod.nod (l33.getD 4 .junk).nod.nod fun v108 =>
 C.aFA 1 1 false v108.nod fun v109 =>
 C.aLd 1 false false v109.nod H39 fun v110 H111 =>
 C.aBin (Try.prog.underlying 3) .lss v110.nod (I 0) fun v112 =>
 Jv (fun v113 H114 =>
 Jv (fun v118 H119 =>
 R59 [(l33.getD 0 .junk), (l33.getD 1 .junk), (l33.getD 2 .junk), (l33.getD 4 .junk), v118] H119)
 (fun R120 =>
 aG v113.nod false (
 C.aIx 3 (l33.getD 2 .junk).nod.nod (l33.getD 4 .junk).nod.nod fun v121 =>
 C.aFA 1 1 false v121.nod fun v122 =>
 C.aLd 1 false false v122.nod H114 fun v123 H124 =>
 C.aBin (Try.prog.underlying 3) .geq v123.nod (I 0) fun v125 =>
 aG v125.nod true (
 C.aIx 3 (l33.getD 2 .junk).nod.nod (l33.getD 4 .junk).nod.nod fun v126 =>
 C.aFA 1 1 false v126.nod fun v127 =>
 C.aLd 1 false false v127.nod H124 fun v128 H129 =>
 C.aBin (Try.prog.underlying 3) .lss v128.nod (l33.getD 3 .junk).nod.nod fun v130 =>
 aG v130.nod false (
 C.aIx 3 (l33.getD 2 .junk).nod.nod (l33.getD 4 .junk).nod.nod fun v131 =>
 C.aFA 1 1 false v131.nod fun v132 =>
 C.aLd 1 false false v132.nod H129 fun v133 H134 =>
 C.aIx 3 (l33.getD 2 .junk).nod.nod (l33.getD 4 .junk).nod.nod fun v135 =>
 C.aFA 2 1 false v135.nod fun v136 =>
 C.aLd 1 false false v136.nod H134 fun v137 H138 =>
 C.aBin (Try.prog.underlying 3) .geq v133.nod v137.nod fun v139 =>
 R120 v139.nod.nod.nod H138) (
 R120 (B true) H129)) (
 UD = UD ∧
 UD = UD ∧
 UD = UD ∧
 UD = UD ∧
 UD = UD ∧
 UD = UD ∧
 UD = UD ∧
 UD = UD ∧
 UD = UD ∧
 UD = UD ∧
 UD = UD ∧
 R120 (B false) H124)) (
 UD = UD ∧
 UD = UD ∧
 UD = UD ∧
 UD = UD ∧
 UD = UD ∧
 UD = UD ∧
 UD = UD ∧
 UD = UD ∧
 UD = UD ∧
 UD = UD ∧
 UD = UD ∧
 UD = UD ∧
 UD = UD ∧
 UD = UD ∧
 UD = UD ∧
 UD = UD ∧
 UD = UD ∧
 UD = UD ∧
 UD = UD ∧
 UD = UD ∧
 R120 (B true) H114)))
 (fun R115 =>
 aG v112.nod true (
 C.aLen (l33.getD 2 .junk).nod.nod fun v116 =>
 C.aBin (Try.prog.underlying 3) .gtr v116.nod (I 1) fun v117 =>
 R115 v117.nod H111) (
 R115 (B false) H111)))))
 [(l26.getD 0 .junk), (l26.getD 1 .junk), (l26.getD 2 .junk), (l26.getD 3 .junk), (l26.getD 4 .junk), v31] H32))
 (fun R28 =>
 C.aIx 3 (l17.getD 2 .junk).nod.nod (l17.getD 4 .junk).nod.nod fun v140 =>
 C.aFA 0 1 false v140.nod fun v141 =>
 C.aLd 1 false false v141.nod H18 fun v142 H143 =>
 C.aBin (Try.prog.underlying 3) .neq v142.nod (l17.getD 3 .junk).nod.nod fun v144 =>
 Jv (fun v145 H146 =>
 Jv (fun v153 H154 =>
 R28 [(l17.getD 0 .junk), (l17.getD 1 .junk), (l17.getD 2 .junk), (l17.getD 3 .junk), (l17.getD 4 .junk), v153] H154)
 (fun R155 =>
 aG v145.nod false (
 C.aIx 3 (l17.getD 2 .junk).nod.nod (l17.getD 4 .junk).nod.nod fun v156 =>
 C.aFA 2 1 false v156.nod fun v157 =>
 C.aLd 1 false false v157.nod H146 fun v158 H159 =>
 C.aLen (l17.getD 0 .junk).nod.nod fun v160 =>
 C.aBin (Try.prog.underlying 3) .gtr v158.nod v160.nod fun v161 =>
 R155 v161.nod H159) (
 R155 (B true) H146)))
 (fun R147 =>
 aG v144.nod false (
 C.aIx 3 (l17.getD 2 .junk).nod.nod (l17.getD 4 .junk).nod.nod fun v148 =>
 C.aFA 2 1 false v148.nod fun v149 =>
 C.aLd 1 false false v149.nod H143 fun v150 H151 =>
 C.aBin (Try.prog.underlying 3) .leq v150.nod (l17.getD 3 .junk).nod.nod fun v152 =>
 R147 v152.nod H151) (
 R147 (B true) H143))))) (
 C.aLen (l17.getD 0 .junk).nod.nod fun v162 =>
 C.aBin (Try.prog.underlying 3) .eql (l17.getD 3 .junk).nod.nod v162.nod fun v163 =>
 Jv (fun v164 H165 =>
 R [v164] H165)
 (fun R166 =>
 aG v163.nod true (
 C.callE 15 [] H18 fun v167 H168 =>
 R166 v167.nod H168) (
 R166 (B false) H18))))
 [(l14.getD 0 .junk), (l14.getD 1 .junk), (l14.getD 2 .junk), (I 0), (I 0)] H15))
 (fun R16 =>
 C.aBin (Try.prog.underlying 28) .neq v13.nod.nod (I 0) fun v169 =>
 Jv (fun v170 H171 =>
 R16 [(l3.getD 0 .junk), (l3.getD 1 .junk), v12, v170] H171)
 (fun R172 =>
 aG v169.nod false (
 C.aLen v12.nod.nod fun v173 =>
 C.aBin (Try.prog.underlying 3) .eql v173.nod (I 0) fun v174 =>
 C.aLen (l3.getD 0 .junk).nod.nod fun v175 =>
 C.aBin (Try.prog.underlying 3) .eql v175.nod (I 0) fun v176 =>
 C.aBin (Try.prog.underlying 4) .neq v174.nod v176.nod fun v177 =>
 R172 v177.nod H11) (
 R172 (B true) H11)))))
 (fun R5 =>
 C.aFA 2 1 false v1.nod fun v178 =>
 C.aLd 1 false false v178.nod H2 fun v179 H180 =>
 C.aLen v179.nod fun v181 =>
 C.aBin (Try.prog.underlying 3) .gtr v181.nod (I 310) fun v182 =>
 Jv (fun v183 H184 =>
 Jv (fun v191 H192 =>
 Jv (fun v196 H197 =>
 Jv (fun v204 H205 =>
 R5 [a1, v1, v204] H205)
 (fun R206 =>
 aG v196.nod false (
 C.aLd 3 true false v1.nod H197 fun v207 H208 =>
 C.callE 18 [v207.nod, a1.nod.nod] H208 fun v209 H210 =>
 C.aUn .not v209.nod fun v211 =>
 R206 v211.nod H210) (
 R206 (B true) H197)))
 (fun R198 =>
 aG v191.nod false (
 C.aLd 3 true false v1.nod H192 fun v199 H200 =>
 C.callE 17 [v199.nod] H200 fun v201 H202 =>
 C.aUn .not v201.nod fun v203 =>
 R198 v203.nod H202) (
 R198 (B true) H192)))
 (fun R193 =>
 aG v183.nod false (
 C.aLen a1.nod.nod fun v194 =>
 C.aBin (Try.prog.underlying 3) .gtr v194.nod (I 500) fun v195 =>
 R193 v195.nod H184) (
 R193 (B true) H184)))
 (fun R185 =>
 aG v182.nod false (
 C.aFA 0 1 false v1.nod fun v186 =>
 C.aLd 1 false false v186.nod H180 fun v187 H188 =>
 C.aLen v187.nod fun v189 =>
 C.aBin (Try.prog.underlying 3) .gtr v189.nod (I 300) fun v190 =>
 R185 v190.nod H188) (
 R185 (B true) H180)))
theorem wf4 : (Nat.ble 2 Try.f4.ntmps && wfC an4 Try.f4.ntmps (Try.f4.body.getD .skip)) = true := by kernel_rfl
theorem tie4 (C : Cb) (a0 a1 : V) (H : Hp) (R : List V → Hp → Prop) : wpG Try.prog C an4 (Try.f4.body.getD .skip) (argF [a0, a1]) H (retG Try.prog C Try.f4 R) (fun _ _ _ => False) (retG Try.prog C Try.f4 R) = vc4 C a0 a1 H R := by kernel_rfl
theorem mk4 (a0 a1 : V) {H : Hp} {v : V} {H1 : Hp} (hd : v.Nd) (hn : H.length ≤ H1.length) (hb : H1 = H ∨ ∀ (b : Nat) (blk : Blk), H1[b]? = some blk → H[b]? = some blk ∨ BelB H1.length blk) (h : vc4 (real Try.prog) a0 a1 H (retF v H1)) : Ret Try.prog 4 [a0, a1] H v H1 :=
 ret_mk (an := an4) hm Try.call4 Try.func4 rfl wf4 hd hn hb (Eq.mpr (tie4 (real Try.prog) a0 a1 H (retF v H1)) h)
theorem mkE4 (a0 a1 : V) {H : Hp} {Q : V → Hp → Prop} (h : vc4 (real Try.prog) a0 a1 H (retW Q)) : RetE Try.prog 4 [a0, a1] H Q :=
 retE_mk (an := an4) hm Try.call4 Try.func4 rfl wf4 (Eq.mpr (tie4 (real Try.prog) a0 a1 H (retW Q)) h)
theorem mko4 (a0 a1 : V) {H : Hp} {xs : List V} {H1 : Hp} (hn : H.length ≤ H1.length) (hb : H1 = H ∨ ∀ (b : Nat) (blk : Blk), H1[b]? = some blk → H[b]? = some blk ∨ BelB H1.length blk) (h : vc4 (real Try.prog) a0 a1 H (retO xs H1)) : Ret Try.prog 4 [a0, a1] H (.arr xs .own) H1 :=
 ret_mko (an := an4) (t := 4) hm Try.call4 Try.func4 rfl wf4 rfl hn hb (Eq.mpr (tie4 (real Try.prog) a0 a1 H (retO xs H1)) h)
end Go.Proofs.Ytgicpobploinhaa
set_option linter.unusedSimpArgs false
set_option linter.unnecessarySimpa false
set_option maxHeartbeats 2000000
namespace Go.Proofs.Ytgicpobploinhaa
open Go Go.Ab Go.Proofs
attribute [local congr] g_bin g_nilS g_nilP g_un g_ext g_bx g_fa g_ld g_st g_ix g_ixA g_slc g_mk g_bs g_bd g_nc g_cv g_len g_lenT g_app g_appB g_cpy g_mm g_call g_callG g_calm g_calmG g_range g_res g_pick g_cond g_loop g_Jv g_eqS g_eqP g_fd g_ixT g_ta g_lkp g_upd g_mkM g_appS g_inv g_callE g_callEG g_invE g_zr g_wr
theorem sylP_len4 (s : Sou) (ph : List Int) : (sylP s ph).length ≤ ph.length := by
 rw [sylP_L]
 split
 ·exact Nat.zero_le _
 ·split
  ·show 1 ≤ _; omega
  ·rw [sylL_len]; exact nl_len s ph _
theorem c4 (s : Sou) (ph : List Int) (H : Hp) (w0 : SmS s) (w1 : ph.length ≤ 9223372036854775807) : Ret Try.prog 4 [souV s, ints ph .no] H (B true) H := by
 refine mk4 _ _ rfl (Nat.le_refl _) (.inl rfl) ?_
 simp only [vc4, real]
 have s1 := w0.so
 have s2 := w0.on
 repeat (first | (with_reducible first | refine Ju.go ?_ | (refine Hd.go ?_; intro K Q hK hQ; simp only [nod_agg, List.map_cons, nodL_ints, nd_no, nodL_imm, nodL_arr, List.map_nil, e_bxI, okE_agg, lv_cons, List.length_nil, Nat.zero_add, Nat.reduceAdd, all_c, ck_ints, ck_I, ck_arr, all_n, Bool.and_self, and_true, true_and, nod_cptr, e_fac, Nat.reduceLeDiff, List.getD_cons_succ, List.getD_cons_zero, e_ldcV, nod_arr, e_lenA, List.length_map, nod_imm, Try.underlying3, e_gtr, e_ldci, nod_ints, e_len, e_gF, j_or', j_one, e_ldcA]; subst hK hQ) | refine Jr.go ?_) | refine sd ?_)
 generalize hR : Rn _ = R
 have kn : R [ints ph .no, .cptr (souV s), B true] H := by
  subst hR
  repeat (first | (with_reducible first | refine Ju.go ?_ | (refine Hd.go ?_; intro K Q hK hQ; simp only [List.getD_cons_succ, List.getD_cons_zero, nod_imm, e_cond, if_true]; subst hK hQ) | refine Jr.go ?_) | refine sd ?_)
  refine call_of (c15 _) ?_
  repeat (first | (with_reducible first | refine Ju.go ?_ | (refine Hd.go ?_; intro K Q hK hQ; simp only []; subst hK hQ) | refine Jr.go ?_) | refine sd ?_)
  exact end1 (fzI _)
 have key : okS s = true → okLi s ph = true → ph.length ≤ 400 → R [ints ph .no, .cptr (souV s), B false] H := by
  intro hs hli hl4
  clear kn
  subst hR
  have c := c16 s ph H w0 w1
  rw [hs, hli, decide_eq_true hl4] at c
  simp only [Bool.and_self, if_true] at c
  have W := sylP_W s ph hs
  have hxl := sylP_len4 s ph
  have hso := hs
  unfold okS okHs at hso
  simp only [Bool.and_eq_true, decide_eq_true_eq, List.all_eq_true] at hso
  have ho1 : s.on.length ≤ 1000000 := by have := hso.1.1.2; omega
  have ho2 : ∀ o, o ∈ s.on → o.length ≤ 1000000 := fun o ho => by
   have := hso.2 o ho
   unfold okOn at this
   simp only [Bool.and_eq_true, inB_iff] at this
   omega
  clear hso
  repeat (first | (with_reducible first | refine Ju.go ?_ | (refine Hd.go ?_; intro K Q hK hQ; simp only [List.getD_cons_succ, List.getD_cons_zero, nod_imm, e_cond, Bool.false_eq_true, if_false, nod_cptr, e_ldcA, lv_cons, List.length_nil, Nat.zero_add, Nat.reduceAdd, true_and, nod_agg, List.map_cons, nodL_ints, nd_no, nodL_imm, nodL_arr, List.map_nil, nod_ints]; subst hK hQ) | refine Jr.go ?_) | refine sd ?_)
  refine call_of c ?_
  clear c
  generalize sylP s ph = x at *
  have ez : decide ((x.length : Int) = 0) = decide ((ph.length : Int) = 0) := by
   have := W.z
   rw [decide_eq_decide]; omega
  repeat (first | (with_reducible first | refine Ju.go ?_ | (refine Hd.go ?_; intro K Q hK hQ; simp only [nod_tup, List.map_cons, nod2_arr, Fl.nd, nod2_imm, List.map_nil, e_x20, e_x21, nod_imm, e_neq, decide_true, Bool.not_true, nod_arr, Try.underlying3, List.getD_cons_zero, nod_ints, Try.underlying4, e_len, e_eql, e_lenA, List.length_map, ez, e_bne, beq_self_eq_true, e_gF, cond_false, j_one, List.getD_cons_succ, e_cond, Bool.false_eq_true, if_false]; subst hK hQ) | refine Jr.go ?_) | refine sd ?_)
  have hst : ∀ i, x.getD i default = x.getD i default := fun _ => rfl
  refine loop_of (fun i : Nat => i ≤ x.length) (fun i => [ints ph .no, .cptr (souV s), .arr (x.map syV) .no, I (atW x i), I i]) (fun _ => H) (fun i => x.length - i) 0 (Nat.zero_le _) rfl rfl ?_
  intro i hi
  repeat (first | (with_reducible first | refine Ju.go ?_ | (refine Hd.go ?_; intro K Q hK hQ; simp only [List.getD_cons_succ, List.getD_cons_zero, nod_arr, nd_no, e_lenA, List.length_map, nod_imm, Try.underlying3, e_lss, e_cond, decide_eq_true_eq]; subst hK hQ) | refine Jr.go ?_) | refine sd ?_)
  by_cases hlt : i < x.length
  ·have d : (i : Int) < x.length := by omega
   have hf := W.f i hlt
   obtain ⟨t1, t2, t3⟩ := W.t i hlt
   have hnu := W.nu i hlt
   have hn0 := W.n0 i hlt
   have hn1 := W.n1 i hlt
   have hat : atW x (i + 1) = (x.getD i default).t := rfl
   obtain ⟨A, hA⟩ : ∃ A : Nat, atW x i = A := ⟨(atW x i).toNat, by omega⟩
   rw [hA] at hf t1 t2 hnu hn1
   have d2 : ¬ (x.getD i default).t ≤ A := by omega
   have d3 : ¬ (ph.length : Int) < (x.getD i default).t := by omega
   repeat (first | (with_reducible first | refine Ju.go ?_ | (refine Hd.go ?_; intro K Q hK hQ; simp only [d, if_true, hA, List.getD_cons_succ, List.getD_cons_zero, nod_arr, nd_no, nod_imm, ix_sy, Int.toNat_natCast, true_and, nod_cptr, e_fac, Nat.zero_add, hf, lv_cons, List.length_nil, Nat.reduceAdd, Nat.reduceLeDiff, e_ldc, Try.underlying3, e_neq, decide_true, Bool.not_true, e_leq, d2, decide_false, e_gF, cond_false, j_side, j_one, nod_ints, e_len, e_gtr, d3, e_cond, Bool.false_eq_true, if_false]; subst hK hQ) | refine Jr.go ?_) | refine sd ?_)
   refine loop_of (fun k : Nat => A ≤ k ∧ (k : Int) ≤ (x.getD i default).t) (fun k => [ints ph .no, .cptr (souV s), .arr (x.map syV) .no, I A, I i, I k]) (fun _ => H) (fun k => (x.getD i default).t.toNat - k) A ⟨Nat.le_refl _, by omega⟩ rfl rfl ?_
   intro k ⟨hk1, hk2⟩
   repeat (first | (with_reducible first | refine Ju.go ?_ | (refine Hd.go ?_; intro K Q hK hQ; simp only [List.getD_cons_succ, List.getD_cons_zero, nod_arr, nd_no, nod_imm, ix_sy, d, Int.toNat_natCast, true_and, nod_cptr, e_fac, Nat.reduceAdd, lv_cons, List.length_nil, Nat.zero_add, Nat.reduceLeDiff, e_ldc, Try.underlying3, e_lss, e_cond, decide_eq_true_eq]; subst hK hQ) | refine Jr.go ?_) | refine sd ?_)
   by_cases hkt : (k : Int) < (x.getD i default).t
   ·have dk : (k : Int) < ph.length := by omega
    have dk' : k < ph.length := by omega
    have hin := okLi_mem hli (hMem ph dk')
    have hnk := hnu k (by omega) hkt
    repeat (first | (with_reducible first | refine Ju.go ?_ | (refine Hd.go ?_; intro K Q hK hQ; simp only [hkt, if_true, List.getD_cons_succ, List.getD_cons_zero, nod_cptr, e_ldcA, lv_cons, List.length_nil, Nat.zero_add, Nat.reduceAdd, true_and, nod_ints, nd_no, nod_imm, e_ix, dk, Int.toNat_natCast, e_ldc, nod_agg, List.map_cons, nodL_ints, nodL_imm, nodL_arr, List.map_nil]; subst hK hQ) | refine Jr.go ?_) | refine sd ?_)
    refine calm_of (fun H => c20 s _ H hin w0.so) ?_
    rw [hnk]
    repeat (first | (with_reducible first | refine Ju.go ?_ | (refine Hd.go ?_; intro K Q hK hQ; simp only [List.getD_cons_succ, List.getD_cons_zero, nod_arr, nd_no, nod_imm, ix_sy, d, Int.toNat_natCast, true_and, nod_cptr, e_fac, Nat.reduceAdd, lv_cons, List.length_nil, Nat.zero_add, Nat.reduceLeDiff, e_ldc, Try.underlying3, e_eql, Try.underlying4, e_bne, beq_self_eq_true, Bool.not_true, e_cond, Bool.false_eq_true, if_false, e_add]; subst hK hQ) | refine Jr.go ?_) | refine sd ?_)
    exact ⟨k + 1, ⟨by omega, by omega⟩, rfl, rfl, by omega⟩
   ·repeat (first | (with_reducible first | refine Ju.go ?_ | (refine Hd.go ?_; intro K Q hK hQ; simp only [hkt, if_false, List.getD_cons_succ, List.getD_cons_zero, nod_arr, nd_no, nod_imm, ix_sy, d, Int.toNat_natCast, true_and, nod_cptr, e_fac, Nat.reduceAdd, lv_cons, List.length_nil, Nat.zero_add, Nat.reduceLeDiff, e_ldc, Try.underlying3, e_lss, e_lenA, List.length_map, e_gtr, e_gT, j_and', j_one, nod_nod, e_geq, e_gF, j_fl, decide_eq_false_iff_not, j_or', j_tl, decide_eq_true_eq, j_side, e_cond]; subst hK hQ) | refine Jr.go ?_) | refine sd ?_)
    have e5 : (decide ((x.getD i default).n < 0) && decide (1 < (x.length : Int)) || decide (0 ≤ (x.getD i default).n) && (decide ((x.getD i default).n < (A : Int)) || decide ((x.getD i default).t ≤ (x.getD i default).n))) = false := by
     rw [Bool.eq_false_iff]
     intro h
     simp only [Bool.or_eq_true, Bool.and_eq_true, decide_eq_true_eq] at h
     rcases h with ⟨h1, h2⟩ | ⟨h1, h2⟩
     ·have := hn0.2 h1; omega
     ·have := hn1 h1; omega
    repeat (first | (with_reducible first | refine Ju.go ?_ | (refine Hd.go ?_; intro K Q hK hQ; simp only [e5, Bool.false_eq_true, if_false, List.getD_cons_succ, List.getD_cons_zero, nod_arr, nd_no, nod_imm, ix_sy, d, Int.toNat_natCast, true_and, nod_cptr, e_fac, Nat.reduceAdd, lv_cons, List.length_nil, Nat.zero_add, Nat.reduceLeDiff, e_ldc, Try.underlying3, e_eql, e_cond, decide_eq_true_eq]; subst hK hQ) | refine Jr.go ?_) | refine sd ?_)
    cases i with
    | zero =>
     have dz : ((0 : Nat) : Int) = 0 := rfl
     repeat (first | (with_reducible first | refine Ju.go ?_ | (refine Hd.go ?_; intro K Q hK hQ; simp only [dz, if_true, List.getD_cons_zero, List.getD_cons_succ, nod_imm, Try.underlying3, e_add]; subst hK hQ) | refine Jr.go ?_) | refine sd ?_)
     exact ⟨1, by omega, rfl, rfl, by omega⟩
    | succ j =>
     have dz : ¬ ((j + 1 : Nat) : Int) = 0 := by omega
     obtain ⟨q1, q2⟩ := W.on j hlt
     have q3 := (W.n0 j (by omega)).1
     obtain ⟨q4, q5⟩ := W.n1 j (by omega) q1
     have q6 := (W.t j (by omega)).2.2
     have hn : 0 ≤ (x.getD (j + 1) default).n := by
      by_cases h : (x.getD (j + 1) default).n < 0
      ·have := hn0.2 h; omega
      ·omega
     obtain ⟨p1, p2⟩ := hn1 hn
     have r1 : R64 (((j + 1 : Nat) : Int) - 1) := by unfold R64; omega
     have ej : (((j + 1 : Nat) : Int) - 1).toNat = j := by omega
     have g0 : 0 ≤ ((j + 1 : Nat) : Int) - 1 := by omega
     have g1 : ((j + 1 : Nat) : Int) - 1 < x.length := by omega
     have r2 : R64 ((x.getD j default).n + 1) := by unfold R64; omega
     repeat (first | (with_reducible first | refine Ju.go ?_ | (refine Hd.go ?_; intro K Q hK hQ; simp only [dz, if_false, List.getD_cons_succ, List.getD_cons_zero, nod_imm, Try.underlying3, e_sub, r1, true_and, nod_arr, nd_no, ix_sy, g0, g1, ej, nod_cptr, e_fac, Nat.reduceAdd, lv_cons, List.length_nil, Nat.zero_add, Nat.reduceLeDiff, e_ldc, e_add, r2]; subst hK hQ) | refine Jr.go ?_) | refine sd ?_)
     obtain ⟨F, hF⟩ : ∃ F : Nat, (x.getD j default).n + 1 = F := ⟨((x.getD j default).n + 1).toNat, by omega⟩
     rw [hF] at q2 ⊢
     refine loop_of (fun m : Nat => F ≤ m) (fun m => [ints ph .no, .cptr (souV s), .arr (x.map syV) .no, I (x.getD (j + 1) default).t, I (j + 1 : Nat), I m]) (fun _ => H) (fun m => ((x.getD (j + 1) default).n + 1).toNat - m) F (Nat.le_refl _) rfl rfl ?_
     intro m hm
     repeat (first | (with_reducible first | refine Ju.go ?_ | (refine Hd.go ?_; intro K Q hK hQ; simp only [List.getD_cons_succ, List.getD_cons_zero, nod_arr, nd_no, nod_imm, ix_sy, d, Int.toNat_natCast, true_and, nod_cptr, e_fac, Nat.reduceAdd, lv_cons, List.length_nil, Nat.zero_add, Nat.reduceLeDiff, e_ldc, Try.underlying3, e_leq, e_cond, decide_eq_true_eq]; subst hK hQ) | refine Jr.go ?_) | refine sd ?_)
     by_cases hmn : (m : Int) ≤ (x.getD (j + 1) default).n
     ·have v1 : (x.getD (j + 1) default).n ≤ ph.length := by omega
      have rm : R64 ((m : Int) + 1) := by unfold R64; omega
      repeat (first | (with_reducible first | refine Ju.go ?_ | (refine Hd.go ?_; intro K Q hK hQ; simp only [hmn, if_true, List.getD_cons_succ, List.getD_cons_zero, nod_cptr, e_ldcA, lv_cons, List.length_nil, Nat.zero_add, Nat.reduceAdd, true_and, nod_arr, nd_no, nod_imm, ix_sy, d, Int.toNat_natCast, e_fac, Nat.reduceLeDiff, e_ldc, nod_ints, e_slcLH, v1, nod_agg, List.map_cons, nodL_ints, nodL_imm, nodL_arr, List.map_nil]; subst hK hQ) | refine Jr.go ?_) | refine sd ?_)
      rw [hf] at q2
      refine calm_of (fun H => c21 s _ H ho1 ho2) ?_
      by_cases hmf : (m : Int) ≤ A
      ·rw [q2 m (by omega) hmn hmf]
       repeat (first | (with_reducible first | refine Ju.go ?_ | (refine Hd.go ?_; intro K Q hK hQ; simp only [List.getD_cons_succ, List.getD_cons_zero, nod_arr, nd_no, nod_imm, ix_sy, d, Int.toNat_natCast, true_and, nod_cptr, e_fac, Nat.zero_add, hf, lv_cons, List.length_nil, Nat.reduceAdd, Nat.reduceLeDiff, e_ldc, Try.underlying3, e_eql, Try.underlying4, e_bne, beq_self_eq_true, Bool.not_true, e_leq, e_gT, cond_false, j_one, e_cond, Bool.false_eq_true, if_false, e_add, rm]; subst hK hQ) | refine Jr.go ?_) | refine sd ?_)
       exact ⟨m + 1, by omega, rfl, rfl, by omega⟩
      ·have e6 : decide ((m : Int) = A) = false := decide_eq_false (by omega)
       generalize leg s _ = bb
       cases bb
       ·repeat (first | (with_reducible first | refine Ju.go ?_ | (refine Hd.go ?_; intro K Q hK hQ; simp only [List.getD_cons_succ, List.getD_cons_zero, nod_arr, nd_no, nod_imm, ix_sy, d, Int.toNat_natCast, true_and, nod_cptr, e_fac, Nat.zero_add, hf, lv_cons, List.length_nil, Nat.reduceAdd, Nat.reduceLeDiff, e_ldc, Try.underlying3, e_eql, e6, Try.underlying4, e_bne, beq_self_eq_true, Bool.not_true, e_leq, e_gT, cond_false, j_one, e_cond, Bool.false_eq_true, if_false, e_add, rm]; subst hK hQ) | refine Jr.go ?_) | refine sd ?_)
        exact ⟨m + 1, by omega, rfl, rfl, by omega⟩
       ·repeat (first | (with_reducible first | refine Ju.go ?_ | (refine Hd.go ?_; intro K Q hK hQ; simp only [List.getD_cons_succ, List.getD_cons_zero, nod_arr, nd_no, nod_imm, ix_sy, d, Int.toNat_natCast, true_and, nod_cptr, e_fac, Nat.zero_add, hf, lv_cons, List.length_nil, Nat.reduceAdd, Nat.reduceLeDiff, e_ldc, Try.underlying3, e_eql, e6, Try.underlying4, e_bne, e_leq, hmf, decide_false, e_gT, j_tl, Bool.not_eq_true', j_and', Bool.and_false, j_side, j_one, e_cond, Bool.false_eq_true, if_false, e_add, rm]; subst hK hQ) | refine Jr.go ?_) | refine sd ?_)
        exact ⟨m + 1, by omega, rfl, rfl, by omega⟩
     ·repeat (first | (with_reducible first | refine Ju.go ?_ | (refine Hd.go ?_; intro K Q hK hQ; simp only [hmn, if_false, List.getD_cons_zero, List.getD_cons_succ, nod_imm, Try.underlying3, e_add]; subst hK hQ) | refine Jr.go ?_) | refine sd ?_)
      exact ⟨j + 1 + 1, by omega, rfl, rfl, by omega⟩
  ·have d : ¬ (i : Int) < x.length := by omega
   obtain rfl : i = x.length := by omega
   repeat (first | (with_reducible first | refine Ju.go ?_ | (refine Hd.go ?_; intro K Q hK hQ; simp only [d, if_false, W.e, List.getD_cons_zero, nod_ints, nd_no, e_len, List.getD_cons_succ, nod_imm, Try.underlying3, e_eql, decide_true, e_gT, cond_true]; subst hK hQ) | refine Jr.go ?_) | refine sd ?_)
   refine call_of (c15 _) ?_
   repeat (first | (with_reducible first | refine Ju.go ?_ | (refine Hd.go ?_; intro K Q hK hQ; simp only [nod_imm]; subst hK hQ) | refine Jr.go ?_) | refine sd ?_)
   exact end1 (fzI _)
 generalize (decide (310 < (s.on.length : Int)) || decide (300 < (s.so.length : Int)) || decide (500 < (ph.length : Int))) = bg
 cases bg
 ·repeat (first | (with_reducible first | refine Ju.go ?_ | (refine Hd.go ?_; intro K Q hK hQ; simp only [cond_false]; subst hK hQ) | refine Jr.go ?_) | refine sd ?_)
  refine call_of (c17 s H w0) ?_
  cases hs : okS s
  ·repeat (first | (with_reducible first | refine Ju.go ?_ | (refine Hd.go ?_; intro K Q hK hQ; simp only [nod_imm, e_not, Bool.not_false, nod_cptr, nod_ints, nd_no, e_ldcA, lv_cons, List.length_nil, Nat.zero_add, Nat.reduceAdd, nod_agg, List.map_cons, nodL_ints, nodL_imm, nodL_arr, List.map_nil, true_and, e_gF, cond_true, j_one]; subst hK hQ) | refine Jr.go ?_) | refine sd ?_)
   exact kn
  ·repeat (first | (with_reducible first | refine Ju.go ?_ | (refine Hd.go ?_; intro K Q hK hQ; simp only [nod_imm, e_not, Bool.not_true, nod_cptr, nod_ints, nd_no, e_ldcA, lv_cons, List.length_nil, Nat.zero_add, Nat.reduceAdd, nod_agg, List.map_cons, nodL_ints, nodL_imm, nodL_arr, List.map_nil, true_and, e_gF, cond_false]; subst hK hQ) | refine Jr.go ?_) | refine sd ?_)
   refine call_of (c18 s ph H w1) ?_
   cases hl : (decide (ph.length ≤ 400) && okLi s ph)
   ·repeat (first | (with_reducible first | refine Ju.go ?_ | (refine Hd.go ?_; intro K Q hK hQ; simp only [nod_imm, e_not, Bool.not_false]; subst hK hQ) | refine Jr.go ?_) | refine sd ?_)
    exact kn
   ·rw [Bool.and_eq_true, decide_eq_true_eq] at hl
    repeat (first | (with_reducible first | refine Ju.go ?_ | (refine Hd.go ?_; intro K Q hK hQ; simp only [nod_imm, e_not, Bool.not_true]; subst hK hQ) | refine Jr.go ?_) | refine sd ?_)
    exact key hs hl.2 hl.1
 ·repeat (first | (with_reducible first | refine Ju.go ?_ | (refine Hd.go ?_; intro K Q hK hQ; simp only [cond_true, nod_imm, nod_cptr, nod_ints, nd_no, e_ldcA, lv_cons, List.length_nil, Nat.zero_add, Nat.reduceAdd, nod_agg, List.map_cons, nodL_ints, nodL_imm, nodL_arr, List.map_nil, true_and, e_gF, j_one]; subst hK hQ) | refine Jr.go ?_) | refine sd ?_)
  exact kn
open Go.ChangeShapes Go.WideShapes Go.ChangeAt Go.RowKit
theorem own : ownKnob Try.prog.godebug = none := by kernel_rfl
theorem laidOut : laidOutB Try.prog = true := by kernel_rfl
set_option maxRecDepth 100000 in
theorem lifted (os : Os) (started : os.Started) (H : Type) (enc : TypeId × Value → H) :
    ReturnsInHanded {} Try.checked os 4 .any (Rows.prosodyWholeSpec.pre6 enc Try.prog Try.f4 Rows.prosodyWholeRow.domain false) (Rows.prosodyWholeSpec.post enc Try.prog Try.f4 false true false false) := by
  refine returnsInHanded_of_change (C := Try.checked) own started (by kernel_rfl) Try.func4
    (ChangeSpec.witness6 (enc := enc) (C := Try.checked) false ⟨#[], #[.agg #[.slice none 0 0, .int .i64 0, .slice none 0 0], .slice none 0 0], []⟩ 8 (by kernel_rfl) (by kernel_rfl) (by kernel_rfl) (by kernel_rfl)) ?_
  intro W base args ds gs before hval0 hW hcnd _
  have hval : ∀ (j : Nat) t v, Try.f4.params[j]? = some t → args[j]? = some v → Value.okWide Try.prog W .any base t v := hval0
  have hW' := hW
  obtain ⟨p, q, hA0, hV, rfl, hfz, hnd⟩ := hW
  have hA : DataW.TrodAll enc Try.prog W 0 (fun _ => true) true Try.f4.params.toList args.toList ds p := hA0
  rw [Try.params4] at hA hval
  obtain ⟨v0, vs0, d0, ds0, p0, q0, hargs, rfl, rfl, h0, r0⟩ := trodAll_cons hA
  obtain ⟨v1, vs1, d1, ds1, p1, q1, rfl, rfl, rfl, h1, r1⟩ := trodAll_cons r0
  obtain ⟨rfl, rfl, rfl⟩ := trodAll_nil r1
  obtain rfl : args = #[v0, v1] := by cases args; simp_all
  obtain ⟨rfl, rfl⟩ := trodVars_none hV
  have lt0 : ∀ x ∈ p0, x.block < W.heap.size := by obtain ⟨m, hm⟩ := h0; exact DataW.trod_lt m _ _ _ hm
  obtain ⟨l0, w0, e0⟩ := in_sou (hval 0 _ v0 rfl rfl) h0
  have lt1 : ∀ x ∈ p1, x.block < W.heap.size := by obtain ⟨m, hm⟩ := h1; exact DataW.trod_lt m _ _ _ hm
  obtain ⟨l1, w1, e1⟩ := in_is (hval 1 _ v1 rfl rfl) h1
  clear hA0 hval0
  refine (bridge (args := [souV l0, ints l1 .no]) (ra := #[v0, v1]) (c4 l0 l1 [] w0 w1) rfl (by intro a ha; simp at ha; rcases ha with rfl | rfl <;> rfl) (fun i => ?_)).mono fun e W' ⟨he, bel⟩ => ?_
  · match i with
    | 0 => exact e0
    | 1 => exact e1
    | i + 2 => exact .junk _
  · subst he
    exact ⟨_, rfl, _, _, _, [], _, [], hW', trodAll_mk1 (shut_bool Try.underlying4 _), (trodAll_cons_mk (Below.trod laidOut (by kernel_rfl) (of_decide_eq_true (by kernel_rfl)) h0 bel lt0) (trodAll_cons_mk (Below.trod laidOut (by kernel_rfl) (of_decide_eq_true (by kernel_rfl)) h1 bel lt1) trodAll_mk0)), rfl, bel.frame _, fun h => by cases h⟩
theorem over : Rows.prosodyWholeRow.holds Try.pinned (OpenSpec.ofChange Rows.prosodyWholeSpec) :=
 OpenClaim.holds_of_wide 4 Try.f4 rfl rfl rfl rfl rfl rfl rfl ⟨rfl, rfl, rfl, rfl, rfl⟩ rfl rfl rfl rfl rfl (by kernel_rfl) Try.func4 (by kernel_rfl)
  (of_decide_eq_true (by kernel_rfl)) (by unfold Func.isWrapper; first | (rw [if_pos (by decide +kernel)]; kernel_rfl) | (rw [if_neg (by decide +kernel)]; exact ⟨rfl, rfl⟩))
  (fun os started H enc _ => lifted os started H enc)
theorem prosodyWhole_holds : Rows.ProsodyWholeSaid := over
#print axioms prosodyWhole_holds
end Go.Proofs.Ytgicpobploinhaa
