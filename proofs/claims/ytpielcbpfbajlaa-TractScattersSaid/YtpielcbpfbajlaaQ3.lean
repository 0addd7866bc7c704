/- The law TractScatters of the given program returns true for any shape and any two lists of numbers, and leaves all as they were. No condition. -/
import Derived.Test.YtpielcbpfbajlaaP6
import Derived.Test.YtpielcbpfbajlaaProg
import Derived.Test.YtpielcbpfbajlaaRows
set_option linter.unusedVariables false
set_option maxRecDepth 20000
set_option maxHeartbeats 4000000
namespace Go.Proofs.Ytpielcbpfbajlaa
open Go Go.Ab Go.Proofs
def an3 : An := { imm := [3], jn := [(2, [1, 2, 3, 26]), (4, [1, 2, 43]), (7, [1, 2, 7, 8, 9]), (9, [1, 2, 7, 8, 9, 10]), (10, [1, 2, 7, 8, 10]), (13, [1, 2, 7, 8]), (14, [1, 2, 7, 121]), (20, [1, 2, 7, 11, 12, 13]), (21, [11, 12])], lp := [(8, [1, 2, 7, 8, 9, 10]), (17, [1, 2, 7, 11, 12, 13])], loud := [32, 36, 40, 139, 149], ord := [] }
def vc3 (C : Cb) (a0 a1 a2 : V) (H : Hp) (R : List V → Hp → Prop) : Prop :=
 C.aBx true 6 a0.nod H fun (v1 : V) (H2 : Hp) =>
 Jn (fun (l3 : List V) (H4 : Hp) =>
 aCond (l3.getD 3 .junk).nod (
 C.callE 17 [] H4 fun (v6 : V) (H7 : Hp) =>
 R [v6] H7) (
 Jn (fun (l8 : List V) (H9 : Hp) =>
 aCond (l8.getD 2 .junk).nod (
 R [(B false)] H9) (
 C.callE 20 [(l8.getD 0 .junk).nod.nod, (l8.getD 1 .junk).nod.nod] H9 fun (v11 : V) (H12 : Hp) =>
 C.aExt 0 v11.nod.nod fun (v13 : V) =>
 C.aExt 1 v11.nod.nod fun (v14 : V) =>
 Jn (fun (l15 : List V) (H16 : Hp) =>
 LoopA (fun (l18 : List V) (H19 : Hp) (K20 : List V → Hp → Prop) =>
 Jn (fun (l21 : List V) (H22 : Hp) =>
 Jn (fun (l24 : List V) (H25 : Hp) =>
 C.aBin (Try.prog.underlying 3) .add (l24.getD 5 .junk).nod.nod (I 1) fun (v27 : V) =>
 K20 [(l24.getD 0 .junk), (l24.getD 1 .junk), (l24.getD 2 .junk), (l24.getD 3 .junk), (l24.getD 4 .junk), v27] H25)
 (fun (R26 : List V → Hp → Prop) =>
 C.aIx 1 (l21.getD 0 .junk).nod.nod (l21.getD 4 .junk).nod.nod fun (v28 : V) =>
 C.aLd 1 false false v28.nod H22 fun (v29 : V) (H30 : Hp) =>
 C.aBin (Try.prog.underlying 3) .geq v29.nod (I 1) fun (v31 : V) =>
 Jv (fun (v32 : V) (H33 : Hp) =>
 Jv (fun (v39 : V) (H40 : Hp) =>
 Jv (fun (v46 : V) (H47 : Hp) =>
 R26 [(l21.getD 0 .junk), (l21.getD 1 .junk), (l21.getD 2 .junk), (l21.getD 3 .junk), v46, (l21.getD 4 .junk)] H47)
 (fun (R48 : V → Hp → Prop) =>
 aG v39.nod true (
 C.aIx 1 (l21.getD 1 .junk).nod.nod (l21.getD 4 .junk).nod.nod fun (v49 : V) =>
 C.aLd 1 false false v49.nod H40 fun (v50 : V) (H51 : Hp) =>
 C.aBin (Try.prog.underlying 3) .leq v50.nod (I 1073741824) fun (v52 : V) =>
 R48 v52.nod H51) (
 R48 (B false) H40)))
 (fun (R41 : V → Hp → Prop) =>
 aG v32.nod true (
 C.aIx 1 (l21.getD 1 .junk).nod.nod (l21.getD 4 .junk).nod.nod fun (v42 : V) =>
 C.aLd 1 false false v42.nod H33 fun (v43 : V) (H44 : Hp) =>
 C.aBin (Try.prog.underlying 3) .geq v43.nod (I (-1073741824)) fun (v45 : V) =>
 R41 v45.nod H44) (
 R41 (B false) H33)))
 (fun (R34 : V → Hp → Prop) =>
 aG v31.nod true (
 C.aIx 1 (l21.getD 0 .junk).nod.nod (l21.getD 4 .junk).nod.nod fun (v35 : V) =>
 C.aLd 1 false false v35.nod H30 fun (v36 : V) (H37 : Hp) =>
 C.aBin (Try.prog.underlying 3) .leq v36.nod (I 1000) fun (v38 : V) =>
 R34 v38.nod H37) (
 R34 (B false) H30))))
 (fun (R23 : List V → Hp → Prop) =>
 C.aLen (l18.getD 0 .junk).nod.nod fun (v53 : V) =>
 C.aBin (Try.prog.underlying 3) .lss (l18.getD 5 .junk).nod.nod v53.nod fun (v54 : V) =>
 Jv (fun (v55 : V) (H56 : Hp) =>
 aCond v55.nod (
 R23 [(l18.getD 0 .junk), (l18.getD 1 .junk), (l18.getD 2 .junk), (l18.getD 3 .junk), (l18.getD 5 .junk)] H56) (
 Jn (fun (l58 : List V) (H59 : Hp) =>
 Jn (fun (l61 : List V) (H62 : Hp) =>
 aCond (l61.getD 3 .junk).nod (
 R [(B false)] H62) (
 C.aBd [(I 0), (I 0)] [] fun (v64 : V) =>
 C.aBd [(I 0), (I 0)] [] fun (v65 : V) =>
 C.aBx false 2 (V.agg [(I 0), (I 0)]) H62 fun (v66 : V) (H67 : Hp) =>
 C.aBx false 2 (V.agg [(I 0), (I 0)]) H67 fun (v68 : V) (H69 : Hp) =>
 C.aSt 2 v66.nod v64 H69 fun (v70 : V) (H71 : Hp) =>
 C.aSt 2 v68.nod v65 H71 fun (v72 : V) (H73 : Hp) =>
 Jn (fun (l74 : List V) (H75 : Hp) =>
 C.aIxA 2 1 false (l74.getD 1 .junk).nod (I 0) fun (v77 : V) =>
 C.aLd 1 false false v77.nod H75 fun (v78 : V) (H79 : Hp) =>
 C.aIxA 2 1 false (l74.getD 0 .junk).nod (I 0) fun (v80 : V) =>
 C.aLd 1 false false v80.nod H79 fun (v81 : V) (H82 : Hp) =>
 C.aBin (Try.prog.underlying 3) .lss v78.nod v81.nod fun (v83 : V) =>
 Jv (fun (v84 : V) (H85 : Hp) =>
 Jv (fun (v101 : V) (H102 : Hp) =>
 R [v101] H102)
 (fun (R103 : V → Hp → Prop) =>
 aG v84.nod true (
 C.callE 17 [] H85 fun (v104 : V) (H105 : Hp) =>
 R103 v104.nod H105) (
 R103 (B false) H85)))
 (fun (R86 : V → Hp → Prop) =>
 aG v83.nod false (
 C.aIxA 2 1 false (l74.getD 1 .junk).nod (I 0) fun (v87 : V) =>
 C.aLd 1 false false v87.nod H82 fun (v88 : V) (H89 : Hp) =>
 C.aIxA 2 1 false (l74.getD 0 .junk).nod (I 0) fun (v90 : V) =>
 C.aLd 1 false false v90.nod H89 fun (v91 : V) (H92 : Hp) =>
 C.aBin (Try.prog.underlying 3) .eql v88.nod v91.nod fun (v93 : V) =>
 aG v93.nod true (
 C.aIxA 2 1 false (l74.getD 1 .junk).nod (I 1) fun (v94 : V) =>
 C.aLd 1 false false v94.nod H92 fun (v95 : V) (H96 : Hp) =>
 C.aIxA 2 1 false (l74.getD 0 .junk).nod (I 1) fun (v97 : V) =>
 C.aLd 1 false false v97.nod H96 fun (v98 : V) (H99 : Hp) =>
 C.aBin (Try.prog.underlying 3) .leq v95.nod v98.nod fun (v100 : V) =>
 R86 v100.nod.nod H99) (
 R86 (B false) H92)) (
 UD = UD ∧
 UD = UD ∧
 UD = UD ∧
 UD = UD ∧
 UD = UD ∧
 R86 (B true) H82)))
 (fun (R76 : List V → Hp → Prop) =>
 LoopA (fun (l106 : List V) (H107 : Hp) (K108 : List V → Hp → Prop) =>
 C.aLen (l106.getD 0 .junk).nod.nod fun (v109 : V) =>
 C.aBin (Try.prog.underlying 3) .lss (l106.getD 5 .junk).nod.nod v109.nod fun (v110 : V) =>
 aCond v110.nod (
 Jn (fun (l111 : List V) (H112 : Hp) =>
 C.aLd 2 true false (l111.getD 4 .junk).nod H112 fun (v114 : V) (H115 : Hp) =>
 C.aIx 1 (l111.getD 0 .junk).nod.nod (l111.getD 5 .junk).nod.nod fun (v116 : V) =>
 C.aLd 1 false false v116.nod H115 fun (v117 : V) (H118 : Hp) =>
 C.aIx 1 (l111.getD 2 .junk).nod.nod (l111.getD 5 .junk).nod.nod fun (v119 : V) =>
 C.aLd 1 false false v119.nod H118 fun (v120 : V) (H121 : Hp) =>
 C.call 23 [v114.nod, v117.nod, v120.nod] H121 fun (v122 : V) (H123 : Hp) =>
 C.aSt 2 (l111.getD 4 .junk).nod v122 H123 fun (v124 : V) (H125 : Hp) =>
 C.aBin (Try.prog.underlying 3) .add (l111.getD 5 .junk).nod.nod (I 1) fun (v126 : V) =>
 K108 [(l111.getD 0 .junk), (l111.getD 1 .junk), (l111.getD 2 .junk), (l111.getD 3 .junk), (l111.getD 4 .junk), v126] H125)
 (fun (R113 : List V → Hp → Prop) =>
 C.aLd 2 true false (l106.getD 3 .junk).nod H107 fun (v127 : V) (H128 : Hp) =>
 C.aIx 1 (l106.getD 0 .junk).nod.nod (l106.getD 5 .junk).nod.nod fun (v129 : V) =>
 C.aLd 1 false false v129.nod H128 fun (v130 : V) (H131 : Hp) =>
 C.aIx 1 (l106.getD 1 .junk).nod.nod (l106.getD 5 .junk).nod.nod fun (v132 : V) =>
 C.aLd 1 false false v132.nod H131 fun (v133 : V) (H134 : Hp) =>
 C.call 23 [v127.nod, v130.nod, v133.nod] H134 fun (v135 : V) (H136 : Hp) =>
 C.aSt 2 (l106.getD 3 .junk).nod v135 H136 fun (v137 : V) (H138 : Hp) =>
 R113 [(l106.getD 0 .junk), (l106.getD 1 .junk), (l106.getD 2 .junk), (l106.getD 3 .junk), (l106.getD 4 .junk), (l106.getD 5 .junk)] H138)) (
 R76 [(l106.getD 3 .junk), (l106.getD 4 .junk)] H107))
 [(l61.getD 0 .junk), (l61.getD 1 .junk), (l61.getD 2 .junk), v66, v68, (I 0)] H73)))
 (fun (R63 : List V → Hp → Prop) =>
 C.aBin (Try.prog.underlying 27) .neq (l58.getD 3 .junk).nod.nod (I 0) fun (v139 : V) =>
 Jv (fun (v140 : V) (H141 : Hp) =>
 R63 [(l58.getD 0 .junk), (l58.getD 1 .junk), (l58.getD 2 .junk), v140] H141)
 (fun (R142 : V → Hp → Prop) =>
 aG v139.nod false (
 C.callE 22 [(l58.getD 0 .junk).nod.nod, (l58.getD 1 .junk).nod.nod] H59 fun (v143 : V) (H144 : Hp) =>
 C.callE 21 [(l58.getD 2 .junk).nod.nod, v143.nod] H144 fun (v145 : V) (H146 : Hp) =>
 C.aUn .not v145.nod fun (v147 : V) =>
 R142 v147.nod H146) (
 R142 (B true) H59))))
 (fun (R60 : List V → Hp → Prop) =>
 C.aUn .not (l18.getD 4 .junk).nod.nod fun (v148 : V) =>
 aCond v148.nod (
 C.aBin (Try.prog.underlying 27) .eql (l18.getD 3 .junk).nod.nod (I 2) fun (v149 : V) =>
 Jv (fun (v150 : V) (H151 : Hp) =>
 Jv (fun (v155 : V) (H156 : Hp) =>
 R [v155] H156)
 (fun (R157 : V → Hp → Prop) =>
 aG v150.nod true (
 C.callE 17 [] H151 fun (v158 : V) (H159 : Hp) =>
 R157 v158.nod H159) (
 R157 (B false) H151)))
 (fun (R152 : V → Hp → Prop) =>
 aG v149.nod true (
 C.aLen (l18.getD 2 .junk).nod.nod fun (v153 : V) =>
 C.aBin (Try.prog.underlying 3) .eql v153.nod (I 0) fun (v154 : V) =>
 R152 v154.nod H56) (
 R152 (B false) H56))) (
 R60 [(l18.getD 0 .junk), (l18.getD 1 .junk), (l18.getD 2 .junk), (l18.getD 3 .junk)] H56))))
 (fun (R57 : V → Hp → Prop) =>
 aG v54.nod true (
 R57 (l18.getD 4 .junk).nod.nod H19) (
 R57 (B false) H19))))
 [(l15.getD 0 .junk), (l15.getD 1 .junk), (l15.getD 2 .junk), (l15.getD 3 .junk), (l15.getD 4 .junk), (I 0)] H16)
 (fun (R17 : List V → Hp → Prop) =>
 C.aLen (l8.getD 0 .junk).nod.nod fun (v160 : V) =>
 C.aBin (Try.prog.underlying 3) .geq v160.nod (I 1) fun (v161 : V) =>
 Jv (fun (v162 : V) (H163 : Hp) =>
 Jv (fun (v167 : V) (H168 : Hp) =>
 R17 [(l8.getD 0 .junk), (l8.getD 1 .junk), v13, v14, v167] H168)
 (fun (R169 : V → Hp → Prop) =>
 aG v162.nod true (
 C.aLen (l8.getD 1 .junk).nod.nod fun (v170 : V) =>
 C.aLen (l8.getD 0 .junk).nod.nod fun (v171 : V) =>
 C.aBin (Try.prog.underlying 3) .eql v170.nod v171.nod fun (v172 : V) =>
 R169 v172.nod H163) (
 R169 (B false) H163)))
 (fun (R164 : V → Hp → Prop) =>
 aG v161.nod true (
 C.aLen (l8.getD 0 .junk).nod.nod fun (v165 : V) =>
 C.aBin (Try.prog.underlying 3) .leq v165.nod (I 10) fun (v166 : V) =>
 R164 v166.nod H12) (
 R164 (B false) H12)))))
 (fun (R10 : List V → Hp → Prop) =>
 C.aLd 6 true false (l3.getD 2 .junk).nod H4 fun (v173 : V) (H174 : Hp) =>
 C.calm 18 [v173.nod] H174 fun (v175 : V) =>
 C.aBin (Try.prog.underlying 27) .eql v175.nod (I 0) fun (v176 : V) =>
 C.aLd 6 true false (l3.getD 2 .junk).nod H174 fun (v177 : V) (H178 : Hp) =>
 C.call 19 [v177.nod] H178 fun (v179 : V) (H180 : Hp) =>
 C.aBin (Try.prog.underlying 4) .neq v176.nod v179.nod fun (v181 : V) =>
 Jv (fun (v182 : V) (H183 : Hp) =>
 R10 [(l3.getD 0 .junk), (l3.getD 1 .junk), v182] H183)
 (fun (R184 : V → Hp → Prop) =>
 aG v181.nod false (
 C.aLd 6 true false (l3.getD 2 .junk).nod H180 fun (v185 : V) (H186 : Hp) =>
 C.call 19 [v185.nod] H186 fun (v187 : V) (H188 : Hp) =>
 C.aUn .not v187.nod fun (v189 : V) =>
 aG v189.nod true (
 C.aLd 6 true false (l3.getD 2 .junk).nod H188 fun (v190 : V) (H191 : Hp) =>
 C.call 18 [v190.nod] H191 fun (v192 : V) (H193 : Hp) =>
 C.aBin (Try.prog.underlying 27) .neq v192.nod (I 2) fun (v194 : V) =>
 R184 v194.nod.nod H193) (
 R184 (B false) H188)) (
 UD = UD ∧
 UD = UD ∧
 UD = UD ∧
 R184 (B true) H180)))))
 (fun (R5 : List V → Hp → Prop) =>
 C.aLd 6 true false v1.nod H2 fun (v195 : V) (H196 : Hp) =>
 C.callE 16 [v195.nod] H196 fun (v197 : V) (H198 : Hp) =>
 C.aUn .not v197.nod fun (v199 : V) =>
 Jv (fun (v200 : V) (H201 : Hp) =>
 Jv (fun (v205 : V) (H206 : Hp) =>
 R5 [a1, a2, v1, v205] H206)
 (fun (R207 : V → Hp → Prop) =>
 aG v200.nod false (
 C.aLen a2.nod.nod fun (v208 : V) =>
 C.aBin (Try.prog.underlying 3) .gtr v208.nod (I 20) fun (v209 : V) =>
 R207 v209.nod H201) (
 R207 (B true) H201)))
 (fun (R202 : V → Hp → Prop) =>
 aG v199.nod false (
 C.aLen a1.nod.nod fun (v203 : V) =>
 C.aBin (Try.prog.underlying 3) .gtr v203.nod (I 20) fun (v204 : V) =>
 R202 v204.nod H198) (
 R202 (B true) H198)))
theorem wf3 : (Nat.ble 3 Try.f3.ntmps && wfC an3 Try.f3.ntmps (Try.f3.body.getD .skip)) = true := by kernel_rfl
theorem tie3 (C : Cb) (a0 a1 a2 : V) (H : Hp) (R : List V → Hp → Prop) : wpG Try.prog C an3 (Try.f3.body.getD .skip) (argF [a0, a1, a2]) H (retG Try.prog C Try.f3 R) (fun _ _ _ => False) (retG Try.prog C Try.f3 R) = vc3 C a0 a1 a2 H R := by kernel_rfl
theorem mk3 (a0 a1 a2 : V) {H : Hp} {v : V} {H1 : Hp} (hd : v.Nd) (hn : H.length ≤ H1.length) (hb : H1 = H ∨ ∀ (b : Nat) (blk : Blk), H1[b]? = some blk → H[b]? = some blk ∨ BelB H1.length blk) (h : vc3 (real Try.prog) a0 a1 a2 H (retF v H1)) : Ret Try.prog 3 [a0, a1, a2] H v H1 :=
  ret_mk (an := an3) hm Try.call3 Try.func3 rfl wf3 hd hn hb (Eq.mpr (tie3 (real Try.prog) a0 a1 a2 H (retF v H1)) h)
theorem mkE3 (a0 a1 a2 : V) {H : Hp} {Q : V → Hp → Prop} (h : vc3 (real Try.prog) a0 a1 a2 H (retW Q)) : RetE Try.prog 3 [a0, a1, a2] H Q :=
  retE_mk (an := an3) hm Try.call3 Try.func3 rfl wf3 (Eq.mpr (tie3 (real Try.prog) a0 a1 a2 H (retW Q)) h)
theorem mko3 (a0 a1 a2 : V) {H : Hp} {xs : List V} {H1 : Hp} (hn : H.length ≤ H1.length) (hb : H1 = H ∨ ∀ (b : Nat) (blk : Blk), H1[b]? = some blk → H[b]? = some blk ∨ BelB H1.length blk) (h : vc3 (real Try.prog) a0 a1 a2 H (retO xs H1)) : Ret Try.prog 3 [a0, a1, a2] H (.arr xs .own) H1 :=
  ret_mko (an := an3) (t := 6) hm Try.call3 Try.func3 rfl wf3 rfl hn hb (Eq.mpr (tie3 (real Try.prog) a0 a1 a2 H (retO xs H1)) h)
end Go.Proofs.Ytpielcbpfbajlaa


set_option linter.unusedVariables false
set_option linter.unusedSimpArgs false
set_option linter.unnecessarySimpa false
set_option maxRecDepth 20000
set_option maxHeartbeats 2000000
namespace Go.Proofs.Ytpielcbpfbajlaa
open Go Go.Ab Go.Proofs
attribute [local congr] g_bin g_nilS g_nilP g_un g_ext g_bx g_fa g_ld g_st g_ix g_ixA g_slc g_mk g_bs g_bd g_nc g_cv g_len g_lenT g_app g_appB g_cpy g_mm g_call g_callG g_calm g_calmG g_range g_res g_pick g_cond g_loop g_Jv g_eqS g_eqP g_fd g_ixT g_ta g_lkp g_upd g_mkM g_appS g_inv g_callE g_callEG g_invE g_zr
theorem and_m (n k : Nat) (hn : n < 2 ^ 63) (hk : k < 63) : bitsV .and .i64 (n : Int) (((2 ^ k - 1 : Nat)) : Int) = ((n % 2 ^ k : Nat) : Int) := by
  unfold bitsV
  have hp : (2 : Nat) ^ k < 2 ^ 63 := Nat.pow_lt_pow_right (by decide) hk
  have hq : 2 ^ k - 1 < 2 ^ IntKind.i64.bits := Nat.lt_of_lt_of_le (Nat.lt_of_le_of_lt (Nat.sub_le _ _) hp) (by decide)
  have e : (BitVec.ofInt IntKind.i64.bits (n : Int) &&& BitVec.ofInt IntKind.i64.bits (((2 ^ k - 1 : Nat)) : Int)).toNat = n % 2 ^ k := by
    rw [BitVec.toNat_and, BitVec.ofInt_natCast, BitVec.ofInt_natCast, BitVec.toNat_ofNat, BitVec.toNat_ofNat]
    rw [Nat.mod_eq_of_lt (show n < 2 ^ IntKind.i64.bits from Nat.lt_of_lt_of_le hn (by decide)), Nat.mod_eq_of_lt hq]
    exact Nat.and_two_pow_sub_one_eq_mod n k
  show IntKind.i64.wrap (((BitVec.ofInt IntKind.i64.bits (n : Int) &&& BitVec.ofInt IntKind.i64.bits (((2 ^ k - 1 : Nat)) : Int)).toNat : Nat) : Int) = _
  rw [e]
  have : n % 2 ^ k < 2 ^ 63 := Nat.lt_of_le_of_lt (Nat.mod_le _ _) hn
  rw [IntKind.wrap_i64]
  generalize n % 2 ^ k = r at this
  omega
theorem and40 {a : Int} (h : 0 ≤ a) (h2 : a < 9223372036854775808) : bitsV .and .i64 a 1099511627775 = a % 1099511627776 := by
  obtain ⟨n, rfl⟩ := Int.eq_ofNat_of_zero_le h
  have := and_m n 40 (by omega) (by decide)
  rw [show (((2 ^ 40 - 1 : Nat)) : Int) = 1099511627775 from rfl] at this
  rw [this]; rfl
theorem and20 {a : Int} (h : 0 ≤ a) (h2 : a < 9223372036854775808) : bitsV .and .i64 a 1048575 = a % 1048576 := by
  obtain ⟨n, rfl⟩ := Int.eq_ofNat_of_zero_le h
  have := and_m n 20 (by omega) (by decide)
  rw [show (((2 ^ 20 - 1 : Nat)) : Int) = 1048575 from rfl] at this
  rw [this]; rfl
theorem sh40 (a : Int) : a.fdiv (2 ^ (min (40 : Int).toNat IntKind.i64.bits)) = a / 1099511627776 := by
  rw [Int.fdiv_eq_ediv_of_nonneg _ (by decide)]; rfl
theorem sh20 (a : Int) : a.fdiv (2 ^ (min (20 : Int).toNat IntKind.i64.bits)) = a / 1048576 := by
  rw [Int.fdiv_eq_ediv_of_nonneg _ (by decide)]; rfl
theorem shl20 (a : Int) : a * 2 ^ (min (20 : Int).toNat 64) = a * 1048576 := rfl
abbrev two (N : Int) : V := .agg [I (N / 1099511627776), I (N % 1099511627776)]
theorem bel_two {n : Nat} (N : Int) : Bel n (two N) := .agg _ fun c hc => by
  simp only [List.mem_cons, List.not_mem_nil, or_false] at hc
  rcases hc with rfl | rfl <;> exact .imm _
theorem cut_0 (a b : V) : cutA (Int.toNat 0) 1 false [a, b] = a := rfl
theorem cut_1 (a b : V) : cutA (Int.toNat 1) 1 false [a, b] = b := rfl
theorem c23 (N a x : Int) (H : Hp) (h0 : 0 ≤ N) (h1 : N ≤ 1208925819614629174706176) (ha : 1 ≤ a) (ha2 : a ≤ 1000) (hx : -4294967296 ≤ x) (hx2 : x ≤ 4294967296) : Ret Try.prog 23 [two N, I a, I x] H (two (N + a * (x * x))) H := by
  have eX : x * x = max x (0 - x) * max x (0 - x) := by
    rcases Int.le_total 0 x with h | h
    · rw [Int.max_eq_left (by omega)]
    · rw [Int.max_eq_right (by omega), Int.zero_sub, Int.neg_mul_neg]
  have hX : 0 ≤ max x (0 - x) ∧ max x (0 - x) ≤ 4294967296 := by omega
  generalize hXX : max x (0 - x) = X at *
  have q1 := and20 hX.1 (show X < 9223372036854775808 by omega)
  have el : X = X / 1048576 * 1048576 + X % 1048576 := by omega
  have hh : 0 ≤ X / 1048576 ∧ X / 1048576 ≤ 4096 := by omega
  have hl : 0 ≤ X % 1048576 ∧ X % 1048576 ≤ 1048575 := by omega
  generalize hd : X / 1048576 = h at *
  generalize hd2 : X % 1048576 = l at *
  have m1 := abs_mul_le (a := a) (b := l) (A := 1000) (B := 1048575) (by omega) (by omega) (by omega) (by omega)
  have m1' := Int.mul_nonneg (a := a) (b := l) (by omega) (by omega)
  have m2 := abs_mul_le (a := a * l) (b := l) (A := 1048575000) (B := 1048575) (by omega) (by omega) (by omega) (by omega)
  have m2' := Int.mul_nonneg (a := a * l) (b := l) (by omega) (by omega)
  have m3 := abs_mul_le (a := a) (b := h) (A := 1000) (B := 4096) (by omega) (by omega) (by omega) (by omega)
  have m3' := Int.mul_nonneg (a := a) (b := h) (by omega) (by omega)
  have m4 := abs_mul_le (a := a * h) (b := h) (A := 4096000) (B := 4096) (by omega) (by omega) (by omega) (by omega)
  have m4' := Int.mul_nonneg (a := a * h) (b := h) (by omega) (by omega)
  have m5 := abs_mul_le (a := 2 * a) (b := h) (A := 2000) (B := 4096) (by omega) (by omega) (by omega) (by omega)
  have m5' := Int.mul_nonneg (a := 2 * a) (b := h) (by omega) (by omega)
  have m6 := abs_mul_le (a := 2 * a * h) (b := l) (A := 8192000) (B := 1048575) (by omega) (by omega) (by omega) (by omega)
  have m6' := Int.mul_nonneg (a := 2 * a * h) (b := l) (by omega) (by omega)
  have eN : N + a * (x * x) = N + a * h * h * 1099511627776 + 2 * a * h * l * 1048576 + a * l * l := by rw [eX, el]; grind
  rw [eN]
  have q2 := and40 (a := N % 1099511627776 + a * l * l) (by omega) (by omega)
  have q3 := and20 (a := 2 * a * h * l) (by omega) (by omega)
  have q4 := and40 (a := (N % 1099511627776 + a * l * l) % 1099511627776 + 2 * a * h * l % 1048576 * 1048576) (by omega) (by omega)
  clear eN eX el
  refine mk23 _ _ _ rfl (Nat.le_refl _) (.inl rfl) ?_
  simp only [vc23, real]
  repeat (first | (with_reducible first | refine jn_go ?_ | refine ud_go ?_ | refine tr_go ?_ | (refine Hd.go ?_; intro K Q hK hQ; simp only [nod_agg, List.map_cons, nodL_imm, List.map_nil, e_bxI, okE_agg, lv_cons, List.length_nil, Nat.zero_add, Nat.reduceAdd, all_c, ck_I, all_n, Bool.and_self, and_true, true_and, e_bx, cl_agg, nod_imm, e_neg, e_max2, hXX, Try.underlying3, e_shrK, sh20, hd, e_andK, q1, List.getD_cons_succ, List.getD_cons_zero, nod_cptr, Nat.mul_one, cut_1, e_ldc, e_mul, e_add, cut_0, sh40, q2, q3, e_shlK, shl20, q4, e_bd1, okE_I, Nat.reduceLeDiff, cl_imm, spl_0, spl_n, spl_s, e_bd0, nod_ptr, own0_imm, e_sc0, stV_agg, e_rA0, dr_0, tk_s, tk_0]; subst hK hQ) | refine rn_go ?_ | refine rv_go ?_ | refine jv_go ?_) | refine sd ?_)
  have v1 : N / 1099511627776 + a * h * h + 2 * a * h * l / 1048576 + (N % 1099511627776 + a * l * l) / 1099511627776 + ((N % 1099511627776 + a * l * l) % 1099511627776 + 2 * a * h * l % 1048576 * 1048576) / 1099511627776 = (N + a * h * h * 1099511627776 + 2 * a * h * l * 1048576 + a * l * l) / 1099511627776 := by omega
  have v2 : ((N % 1099511627776 + a * l * l) % 1099511627776 + 2 * a * h * l % 1048576 * 1048576) % 1099511627776 = (N + a * h * h * 1099511627776 + 2 * a * h * l * 1048576 + a * l * l) % 1099511627776 := by omega
  rw [v1, v2]
  exact ⟨.keep _ (bel_two _), by simp⟩
def gd (a w : List Int) (k : Nat) : Prop := (1 ≤ a.getD k 0 ∧ a.getD k 0 ≤ 1000) ∧ -1073741824 ≤ w.getD k 0 ∧ w.getD k 0 ≤ 1073741824
def ln (a w : List Int) : Prop := 1 ≤ a.length ∧ a.length ≤ 10 ∧ w.length = a.length
theorem scB_iff (a w : List Int) : scB a w = true ↔ ln a w ∧ ∀ k, k < a.length → gd a w k := by
  unfold scB ln gd
  rw [Bool.and_eq_true, Bool.and_eq_true, Bool.and_eq_true, inB_iff, decide_eq_true_eq, okAs_iff, List.all_eq_true]
  constructor
  · rintro ⟨⟨⟨h1, h2⟩, h3⟩, h4⟩
    refine ⟨⟨by omega, by omega, h2⟩, fun k hk => ⟨h3 _ (hMem a hk), inB_iff.1 (h4 _ (hMem w (by omega)))⟩⟩
  · rintro ⟨⟨h1, h2, h3⟩, h4⟩
    refine ⟨⟨⟨by omega, h3⟩, fun x hx => ?_⟩, fun x hx => ?_⟩
    · obtain ⟨k, hk, rfl⟩ := List.mem_iff_getElem.1 hx
      have := (h4 k hk).1
      rwa [List.getD_eq_getElem?_getD, List.getElem?_eq_getElem hk] at this
    · obtain ⟨k, hk, rfl⟩ := List.mem_iff_getElem.1 hx
      have := (h4 k (by omega)).2
      rw [List.getD_eq_getElem?_getD, List.getElem?_eq_getElem hk] at this
      exact inB_iff.2 this
def enS (a w : List Int) (k : Nat) : Int := sm (fun i => a.getD i 0 * (w.getD i 0 * w.getD i 0)) k
theorem enS_bd {a w : List Int} : ∀ k : Nat, (∀ i, i < k → (1 ≤ a.getD i 0 ∧ a.getD i 0 ≤ 1000) ∧ -4294967296 ≤ w.getD i 0 ∧ w.getD i 0 ≤ 4294967296) → 0 ≤ enS a w k ∧ enS a w k ≤ k * 18446744073709551616000 := by
  intro k h
  have ht : ∀ i, i < k → 0 ≤ a.getD i 0 * (w.getD i 0 * w.getD i 0) ∧ a.getD i 0 * (w.getD i 0 * w.getD i 0) ≤ 18446744073709551616000 := fun i hi => by
    have h1 := h i hi
    have q := sq_le (x := w.getD i 0) (y := 4294967296) (by omega) (by omega)
    have q0 := sq0 (w.getD i 0)
    generalize w.getD i 0 * w.getD i 0 = u at *
    have b := abs_mul_le (a := a.getD i 0) (b := u) (A := 1000) (B := 18446744073709551616) (by omega) (by omega) (by omega) (by omega)
    have b0 := Int.mul_nonneg (a := a.getD i 0) (b := u) (by omega) (by omega)
    omega
  have h1 := sm_nn k fun i hi => (ht i hi).1
  have h2 := sm_bd (M := 18446744073709551616000) k fun i hi => ⟨by have := (ht i hi).1; omega, (ht i hi).2⟩
  exact ⟨h1, h2.2⟩
theorem scO_bd {a w : List Int} (h : scB a w = true) {i : Nat} (hi : i < a.length) : -4294967296 ≤ scO a w i ∧ scO a w i ≤ 4294967296 := by
  have hsc := scB_ok h
  have hg := ((scB_iff a w).1 h).2
  have hA := hsc.A
  have hS : -(2147483648 * scA a) ≤ scS a w ∧ scS a w ≤ 2147483648 * scA a := by
    have h1 := sm_le (f := fun i => 2 * a.getD i 0 * w.getD i 0) (g := fun i => 2147483648 * a.getD i 0) a.length fun i hi => by
      have h2 := hg i hi
      unfold gd at h2
      have := Int.mul_le_mul_of_nonneg_left (c := 2 * a.getD i 0) h2.2.2 (by omega)
      show 2 * a.getD i 0 * w.getD i 0 ≤ 2147483648 * a.getD i 0
      omega
    have h3 := sm_le (f := fun i => -2147483648 * a.getD i 0) (g := fun i => 2 * a.getD i 0 * w.getD i 0) a.length fun i hi => by
      have h2 := hg i hi
      unfold gd at h2
      have := Int.mul_le_mul_of_nonneg_left (c := 2 * a.getD i 0) h2.2.1 (by omega)
      show -2147483648 * a.getD i 0 ≤ 2 * a.getD i 0 * w.getD i 0
      omega
    rw [sm_mul] at h1 h3
    unfold scS scA
    constructor <;> omega
  have hW : -(1073741824 * scA a) ≤ scA a * w.getD i 0 ∧ scA a * w.getD i 0 ≤ 1073741824 * scA a := by
    have h2 := hg i hi
    unfold gd at h2
    have q1 := Int.mul_le_mul_of_nonneg_left (c := scA a) h2.2.2 (by omega)
    have q2 := Int.mul_le_mul_of_nonneg_left (c := scA a) h2.2.1 (by omega)
    omega
  have ht := tdv (scS a w - scA a * w.getD i 0) hA.1
  have e : (scS a w - scA a * w.getD i 0).tdiv (scA a) = scO a w i := rfl
  rw [e] at ht
  have u1 : scA a * scO a w i ≤ scA a * 3221225472 := by omega
  have u2 : scA a * -3221225472 ≤ scA a * scO a w i := by omega
  have := Int.le_of_mul_le_mul_left u1 (by omega)
  have := Int.le_of_mul_le_mul_left u2 (by omega)
  omega
theorem scV_get (a w : List Int) {i : Nat} (hi : i < a.length) : (scV a w).getD i 0 = scO a w i := by
  unfold scV
  rw [List.getD_eq_getElem?_getD, List.getElem?_map, List.getElem?_range hi]; rfl
theorem gt0 (x y : V) : [x, y].getD (Int.toNat 0) .junk = x := rfl
theorem gt1 (x y : V) : [x, y].getD (Int.toNat 1) .junk = y := rfl
theorem c3 (A D : List Int) (j g l n : Int) (a w : List Int) (H : Hp) : Ret Try.prog 3 [shp A D j g l n, ints a .no, ints w .no] H (B true) H := by
  refine mk3 _ _ _ rfl (Nat.le_refl _) (.inl rfl) ?_
  simp only [vc3, real]
  repeat (first | (with_reducible first | refine jn_go ?_ | refine ud_go ?_ | refine tr_go ?_ | (refine Hd.go ?_; intro K Q hK hQ; simp only [nod_agg, List.map_cons, nodL_ints, nd_no, nodL_imm, List.map_nil, e_bxI, okE_agg, lv_cons, List.length_nil, Nat.zero_add, Nat.reduceAdd, all_c, ck_ints, ck_I, all_n, Bool.and_self, and_true, true_and, nod_cptr, e_ldcA]; subst hK hQ) | refine rn_go ?_ | refine rv_go ?_ | refine jv_go ?_) | refine sd ?_)
  refine call_of (c16 A D j g l n _) ?_
  repeat (first | (with_reducible first | refine jn_go ?_ | refine ud_go ?_ | refine tr_go ?_ | (refine Hd.go ?_; intro K Q hK hQ; simp only [nod_imm, e_not, nod_ints, nd_no, Try.underlying3, e_len, e_gtr, e_gF, j_or', j_one, List.getD_cons_succ, List.getD_cons_zero, e_cond]; subst hK hQ) | refine rn_go ?_ | refine rv_go ?_ | refine jv_go ?_) | refine sd ?_)
  by_cases hA : (!(decide ((A.length : Int) ≤ 40) && decide ((D.length : Int) ≤ 40)) || decide (20 < (a.length : Int)) || decide (20 < (w.length : Int))) = true
  · repeat (first | (with_reducible first | refine jn_go ?_ | refine ud_go ?_ | refine tr_go ?_ | (refine Hd.go ?_; intro K Q hK hQ; simp only [hA, if_true]; subst hK hQ) | refine rn_go ?_ | refine rv_go ?_ | refine jv_go ?_) | refine sd ?_)
    refine call_of (c17 _) ?_
    with_reducible first | refine rv_go ?_ | refine rn_go ?_ | skip
    first | exact end1 (fzI _) | exact end1A (fzI _)
  have hA' := hA
  simp only [Bool.or_eq_true, Bool.not_eq_true', Bool.and_eq_false_iff, decide_eq_false_iff_not, decide_eq_true_eq, not_or, Int.not_lt, Decidable.not_not] at hA'
  repeat (first | (with_reducible first | refine jn_go ?_ | refine ud_go ?_ | refine tr_go ?_ | (refine Hd.go ?_; intro K Q hK hQ; simp only [hA, Bool.false_eq_true, if_false, List.getD_cons_succ, List.getD_cons_zero, nod_cptr, e_ldcA, lv_cons, List.length_nil, Nat.zero_add, Nat.reduceAdd, true_and, nod_agg, List.map_cons, nodL_ints, nd_no, nodL_imm, List.map_nil]; subst hK hQ) | refine rn_go ?_ | refine rv_go ?_ | refine jv_go ?_) | refine sd ?_)
  refine calm_of (fun H => c18 A D j g l n H ⟨by omega, by omega⟩) ?_
  repeat (first | (with_reducible first | refine jn_go ?_ | refine ud_go ?_ | refine tr_go ?_ | (refine Hd.go ?_; intro K Q hK hQ; simp only [nod_imm, Try.underlying27, e_eql, List.getD_cons_succ, List.getD_cons_zero, nod_cptr, e_ldcA, lv_cons, List.length_nil, Nat.zero_add, Nat.reduceAdd, true_and, nod_agg, List.map_cons, nodL_ints, nd_no, nodL_imm, List.map_nil]; subst hK hQ) | refine rn_go ?_ | refine rv_go ?_ | refine jv_go ?_) | refine sd ?_)
  refine call_ofD (c19 A D j g l n _ ⟨by omega, by omega⟩) ?_
  repeat (first | (with_reducible first | refine jn_go ?_ | refine ud_go ?_ | refine tr_go ?_ | (refine Hd.go ?_; intro K Q hK hQ; simp only [nod_imm, Try.underlying4, e_bne, List.getD_cons_succ, List.getD_cons_zero, nod_cptr, Try.underlying27, nod_nod, e_ldcA, lv_cons, List.length_nil, Nat.zero_add, Nat.reduceAdd, nod_agg, List.map_cons, nodL_ints, nd_no, nodL_imm, List.map_nil, true_and, e_gF]; subst hK hQ) | refine rn_go ?_ | refine rv_go ?_ | refine jv_go ?_) | refine sd ?_)
  have e1 : (!(decide ((if ShOk A D j g l n then (0 : Int) else 2) = 0) == decide (ShOk A D j g l n))) = false := by split <;> simp_all
  rw [e1]
  repeat (first | (with_reducible first | refine jn_go ?_ | refine ud_go ?_ | refine tr_go ?_ | (refine Hd.go ?_; intro K Q hK hQ; simp only [cond_false]; subst hK hQ) | refine rn_go ?_ | refine rv_go ?_ | refine jv_go ?_) | refine sd ?_)
  refine call_ofD (c19 A D j g l n _ ⟨by omega, by omega⟩) ?_
  repeat (first | (with_reducible first | refine jn_go ?_ | refine ud_go ?_ | refine tr_go ?_ | (refine Hd.go ?_; intro K Q hK hQ; simp only [nod_imm, e_not, e_gT]; subst hK hQ) | refine rn_go ?_ | refine rv_go ?_ | refine jv_go ?_) | refine sd ?_)
  generalize hR : Rv _ = R
  have key : R (B false) H := by
    rw [← hR]
    refine rv_go ?_
    repeat (first | (with_reducible first | refine jn_go ?_ | refine ud_go ?_ | refine tr_go ?_ | (refine Hd.go ?_; intro K Q hK hQ; simp only [List.getD_cons_zero, List.getD_cons_succ, nod_imm, e_cond, Bool.false_eq_true, if_false, nod_ints, nd_no]; subst hK hQ) | refine rn_go ?_ | refine rv_go ?_ | refine jv_go ?_) | refine sd ?_)
    refine call_of (c20 a w _ (by omega) (by omega)) ?_
    repeat (first | (with_reducible first | refine jn_go ?_ | refine ud_go ?_ | refine tr_go ?_ | (refine Hd.go ?_; intro K Q hK hQ; simp only [nod_tup, List.map_cons, nod2_ints, nd_no, nod2_imm, List.map_nil, e_x20, e_x21, List.getD_cons_zero, nod_ints, e_len, nod_imm, Try.underlying3, e_geq, e_leq, e_gT, j_and', j_one, List.getD_cons_succ, e_eql]; subst hK hQ) | refine rn_go ?_ | refine rv_go ?_ | refine jv_go ?_) | refine sd ?_)
    have hW : scB a w = true → ln a w := fun h => ((scB_iff a w).1 h).1
    refine loop_of (fun q : Nat × Bool => q.1 ≤ a.length ∧ (q.2 = true ↔ ln a w ∧ ∀ k, k < q.1 → gd a w k)) (fun q => [ints a .no, ints w .no, ints (if scB a w = true then scV a w else []) .no, I (if scB a w = true then 0 else 2), B q.2, I q.1]) (fun _ => H) (fun q => a.length - q.1) (0, decide ((1 : Int) ≤ a.length) && decide ((a.length : Int) ≤ 10) && decide ((w.length : Int) = a.length)) ⟨Nat.zero_le _, ?_⟩ rfl rfl ?_
    · simp only [Bool.and_eq_true, decide_eq_true_eq, ln]
      refine ⟨fun h => ⟨by omega, fun k hk => absurd hk (Nat.not_lt_zero k)⟩, fun h => by omega⟩
    rintro ⟨i, f⟩ ⟨hi, hf⟩
    dsimp only at hi hf
    repeat (first | (with_reducible first | refine jn_go ?_ | refine ud_go ?_ | refine tr_go ?_ | (refine Hd.go ?_; intro K Q hK hQ; simp only [List.getD_cons_zero, nod_ints, nd_no, e_len, List.getD_cons_succ, nod_imm, Try.underlying3, e_lss, e_gT, j_and', j_one, e_cond]; subst hK hQ) | refine rn_go ?_ | refine rv_go ?_ | refine jv_go ?_) | refine sd ?_)
    by_cases hc : (decide ((i : Int) < a.length) && f) = true
    · rw [hc]
      have hc' := hc
      rw [Bool.and_eq_true, decide_eq_true_eq] at hc'
      obtain ⟨hL, hg⟩ := hf.1 hc'.2
      have hlt : i < a.length := by omega
      unfold ln at hL
      repeat (first | (with_reducible first | refine jn_go ?_ | refine ud_go ?_ | refine tr_go ?_ | (refine Hd.go ?_; intro K Q hK hQ; simp only [if_true, List.getD_cons_zero, List.getD_cons_succ, nod_ints, nd_no, nod_imm, e_ix, Int.toNat_natCast, nod_cptr, e_ldc, Try.underlying3, e_geq, e_leq, e_gT, j_tl, decide_eq_true_eq, j_and', j_side, j_one, Int.reduceNeg, e_add]; subst hK hQ) | refine rn_go ?_ | refine rv_go ?_ | refine jv_go ?_) | refine sd ?_)
      refine ⟨(i + 1, decide (1 ≤ a.getD i 0) && decide (a.getD i 0 ≤ 1000) && decide (-1073741824 ≤ w.getD i 0) && decide (w.getD i 0 ≤ 1073741824)), ⟨?_, ?_⟩, rfl, rfl, ?_⟩
      · show i + 1 ≤ a.length; omega
      · simp only [Bool.and_eq_true, decide_eq_true_eq]
        refine ⟨fun h => ⟨hL, fun k hk => ?_⟩, fun h => ?_⟩
        · by_cases e : k = i
          · subst e; unfold gd; omega
          · exact hg k (by omega)
        · have := h.2 i (by omega)
          unfold gd at this; omega
      · show a.length - (i + 1) < a.length - i; omega
    · rw [Bool.eq_false_iff.2 hc]
      have hF : f = scB a w := by
        rw [Bool.eq_iff_iff, scB_iff, hf]
        refine ⟨fun h => ⟨h.1, fun k hk => ?_⟩, fun h => ⟨h.1, fun k hk => h.2 k (by omega)⟩⟩
        have : f = true := hf.2 h
        rw [this] at hc
        simp only [Bool.and_true, decide_eq_true_eq] at hc
        exact h.2 k (by omega)
      rw [hF]
      repeat (first | (with_reducible first | refine jn_go ?_ | refine ud_go ?_ | refine tr_go ?_ | (refine Hd.go ?_; intro K Q hK hQ; simp only [Bool.false_eq_true, if_false, List.getD_cons_succ, List.getD_cons_zero, nod_imm, e_not, e_cond, Bool.not_eq_true']; subst hK hQ) | refine rn_go ?_ | refine rv_go ?_ | refine jv_go ?_) | refine sd ?_)
      by_cases hB : scB a w = true
      · rw [hB]
        repeat (first | (with_reducible first | refine jn_go ?_ | refine ud_go ?_ | refine tr_go ?_ | (refine Hd.go ?_; intro K Q hK hQ; simp only [Bool.true_eq_false, if_false, if_true, List.getD_cons_zero, List.getD_cons_succ, nod_imm, Try.underlying27, e_neq, decide_true, Bool.not_true, nod_ints, nd_no, e_gF, cond_false]; subst hK hQ) | refine rn_go ?_ | refine rv_go ?_ | refine jv_go ?_) | refine sd ?_)
        have hsc := scB_ok hB
        have hpos := fun k hk => (hsc.ar k hk).1
        have hL := (hW hB)
        unfold ln at hL
        have hlen : (scV a w).length = a.length := by simp [scV]
        refine call_of (c22 a w _ hsc) ?_
        repeat (first | (with_reducible first | refine jn_go ?_ | refine ud_go ?_ | refine tr_go ?_ | (refine Hd.go ?_; intro K Q hK hQ; simp only [nod_ints, nd_no]; subst hK hQ) | refine rn_go ?_ | refine rv_go ?_ | refine jv_go ?_) | refine sd ?_)
        refine call_of (c21 (scV a w) (scV a w) .no .no _ (by omega) (by intro h; cases h) (by intro h; cases h)) ?_
        repeat (first | (with_reducible first | refine jn_go ?_ | refine ud_go ?_ | refine tr_go ?_ | (refine Hd.go ?_; intro K Q hK hQ; simp only [decide_true, nod_imm, e_not, Bool.not_true, List.getD_cons_zero, List.getD_cons_succ, e_cond, Bool.false_eq_true, if_false, e_bd0, e_bx, okE_agg, lv_cons, List.length_nil, Nat.zero_add, Nat.reduceAdd, all_c, ck_I, all_n, Bool.and_self, and_true, cl_agg, true_and, hp_len, hp_len_cons, hp_assoc, hp_cons, hp_nil, nod_ptr, e_sc0, Nat.reduceLeDiff, stV_agg, List.map_cons, nodL_imm, List.map_nil, spl_0, spl_n, e_sc1]; subst hK hQ) | refine rn_go ?_ | refine rv_go ?_ | refine jv_go ?_) | refine sd ?_)
        have z1 : [I 0, I 0] = [I (enS a w 0 / 1099511627776), I (enS a w 0 % 1099511627776)] := rfl
        have z2 : [I 0, I 0] = [I (enS a (scV a w) 0 / 1099511627776), I (enS a (scV a w) 0 % 1099511627776)] := rfl
        refine loop_of (fun i : Nat => i ≤ a.length) (fun i => [ints a .no, ints w .no, ints (scV a w) .no, .ptr H.length 0, .ptr (H.length + 1) 0, I i]) (fun i => H ++ [.cells [I (enS a w i / 1099511627776), I (enS a w i % 1099511627776)], .cells [I (enS a (scV a w) i / 1099511627776), I (enS a (scV a w) i % 1099511627776)]]) (fun i => a.length - i) 0 (Nat.zero_le _) rfl rfl ?_
        intro i hi
        have b1 := enS_bd (a := a) (w := w) i fun k hk => ⟨hsc.ar k (by omega), by have := ((scB_iff a w).1 hB).2 k (by omega); unfold gd at this; omega⟩
        have b2 := enS_bd (a := a) (w := scV a w) i fun k hk => ⟨hsc.ar k (by omega), by rw [scV_get a w (by omega)]; exact scO_bd hB (by omega)⟩
        have g0 : (H ++ [Blk.cells [I (enS a w i / 1099511627776), I (enS a w i % 1099511627776)], .cells [I (enS a (scV a w) i / 1099511627776), I (enS a (scV a w) i % 1099511627776)]])[H.length]? = some (.cells [I (enS a w i / 1099511627776), I (enS a w i % 1099511627776)]) := by simp
        have g1 : (H ++ [Blk.cells [I (enS a w i / 1099511627776), I (enS a w i % 1099511627776)], .cells [I (enS a (scV a w) i / 1099511627776), I (enS a (scV a w) i % 1099511627776)]])[H.length + 1]? = some (.cells [I (enS a (scV a w) i / 1099511627776), I (enS a (scV a w) i % 1099511627776)]) := by simp
        repeat (first | (with_reducible first | refine jn_go ?_ | refine ud_go ?_ | refine tr_go ?_ | (refine Hd.go ?_; intro K Q hK hQ; simp only [List.getD_cons_zero, nod_ints, nd_no, e_len, List.getD_cons_succ, nod_imm, Try.underlying3, e_lss, e_cond, decide_eq_true_eq]; subst hK hQ) | refine rn_go ?_ | refine rv_go ?_ | refine jv_go ?_) | refine sd ?_)
        by_cases hlt : i < a.length
        · have d : (i : Int) < a.length := by omega
          repeat (first | (with_reducible first | refine jn_go ?_ | refine ud_go ?_ | refine tr_go ?_ | (refine Hd.go ?_; intro K Q hK hQ; simp only [d, if_true, List.getD_cons_succ, List.getD_cons_zero, nod_ptr, ldA_at g0, Nat.zero_add, lv_cons, List.length_nil, Nat.reduceAdd, Nat.reduceLeDiff, dr_0, tk_s, tk_0, nod_agg, List.map_cons, nodL_imm, List.map_nil, true_and, nod_ints, nd_no, nod_imm, e_ix, Int.toNat_natCast, nod_cptr, e_ldc]; subst hK hQ) | refine rn_go ?_ | refine rv_go ?_ | refine jv_go ?_) | refine sd ?_)
          have t1 := hsc.ar i hlt
          have t2 : gd a w i := ((scB_iff a w).1 hB).2 i hlt
          unfold gd at t2
          have t3 := scO_bd hB hlt
          have t4 := scV_get a w hlt
          refine call_ofD (c23 (enS a w i) (a.getD i 0) (w.getD i 0) _ b1.1 (by omega) t1.1 t1.2 (by omega) (by omega)) ?_
          repeat (first | (with_reducible first | refine jn_go ?_ | refine ud_go ?_ | refine tr_go ?_ | (refine Hd.go ?_; intro K Q hK hQ; simp only [List.getD_cons_succ, List.getD_cons_zero, nod_ptr, e_sc0, Nat.zero_add, lv_cons, List.length_nil, Nat.reduceAdd, Nat.reduceLeDiff, stV_agg, List.map_cons, nodL_imm, List.map_nil, okE_agg, all_c, ck_I, all_n, Bool.and_self, and_true, cl_agg, spl_0, spl_n, true_and, e_lA1, dr_0, tk_s, tk_0, nod_agg, nod_ints, nd_no, nod_imm, e_ix, Int.toNat_natCast, nod_cptr, e_ldc]; subst hK hQ) | refine rn_go ?_ | refine rv_go ?_ | refine jv_go ?_) | refine sd ?_)
          repeat (first | (with_reducible first | refine jn_go ?_ | refine ud_go ?_ | refine tr_go ?_ | (refine Hd.go ?_; intro K Q hK hQ; simp only [Try.underlying3, Try.underlying4, Try.underlying22, Try.underlying27, Try.underlying123, Try.underlying91, Try.underlying41, Try.underlying107, j_one, j_side, j_tl, j_fl, nod_nod, nod_imm, nod_ints, nd_no, nd_own, nd_full, nd_fO, oF_ap, oF_succ, nod_sl, nod_ptr, nod_cptr, nod_fn, nod_junk, nodL_imm, nod_agg, nod_tup, nod2_imm, nod2_agg, cl_imm, cl_ints, cl_agg, e_add, e_sub, e_mul, e_quo, e_rem, e_eql, e_neq, e_lss, e_leq, e_gtr, e_geq, e_beq, e_bne, e_neg, e_not, e_pick, e_cond, e_gT, e_gF, e_len, e_lenA, e_lenS, e_ix, e_ixS, e_ldc, e_ldci, e_fa, rep_cl, rep_I, e_bx, okE_I, okE_B, okE_E8, okE_ints, stV_imm, stV_ints, j_and', j_or', List.getD_cons_zero, List.getD_cons_succ, List.map_cons, List.map_nil, decide_eq_true_eq, Int.toNat_natCast, Nat.mul_one, Nat.zero_add, true_and, and_true, List.length_map, Bool.not_eq_true', decide_eq_false_iff_not, nod_lists, e_lenL, e_ixL, okE_lists, bs1, bs1L, bs2L, e_app, e_appL, e_app0, e_app0L, e_slcLo, e_slcHi, e_slcLH, e_slcHH, e_slcLHH, e_callG, e_callY, e_calmG, e_slS0, e_slSLo, e_slSHi, e_slSLH, e_slSHH, e_slSLHH, e_max2, e_min2, e_max3, e_x20, e_x21, e_x30, e_x31, e_x32, nod2_ints, nod2_lists, rep_fl, bs0, e_nilE, if_true, if_false, cond_true, cond_false, decide_true, decide_false, eq_self, Bool.false_eq_true, false_implies, true_implies, ap_own, ap_full, e_slcLoL, e_slcHiL, e_slcLHL, hp_assoc, hp_cons, hp_nil, hp_len, hp_len_cons, hp_len_nil, lv_cons, lv_nil, vs_0, vs_s, spl_s, spl_0, spl_n, dr_s, dr_0, tk_s, tk_0, e_bxI, e_fac, e_facA, e_ldcA, e_ldcL, e_ldcF, okE_agg, ck_I, ck_B, ck_ints, ck_lists, ck_arr, ck_ptr, ck_cptr, ck_fn, all_c, all_n, stV_agg, stV_lists, stV_arr, stV_ptr, stV_cptr, stV_fn, nodL_ints, nodL_lists, nodL_ptr, nodL_cptr, nodL_fn, nodL_arr0, cl_arr, cl_ptr, cl_cptr, cl_fn, cl_lists, okE_arr, okE_fn, okE_ptr, okE_cptr, e_bd0, e_bd1, Nat.reduceAdd, Nat.reduceLeDiff, Nat.reduceEqDiff, Nat.add_zero, Bool.and_self, Bool.true_and, Bool.and_true, e_lc0, e_lA0, e_lM0, e_sc0, e_rc0, e_rA0, e_lI0, e_sI0, e_cI0, e_lc1, e_lA1, e_lM1, e_sc1, e_rc1, e_rA1, e_lI1, e_sI1, e_cI1, e_lc2, e_lA2, e_lM2, e_sc2, e_rc2, e_rA2, e_lI2, e_sI2, e_cI2, e_lc3, e_lA3, e_lM3, e_sc3, e_rc3, e_rA3, e_lI3, e_sI3, e_cI3, e_lc4, e_lA4, e_lM4, e_sc4, e_rc4, e_rA4, e_lI4, e_sI4, e_cI4, e_lc5, e_lA5, e_lM5, e_sc5, e_rc5, e_rA5, e_lI5, e_sI5, e_cI5, own0_arr, own0_ints, own0_lists, own0_imm, own0_ptr, own0_cptr, own0_fn, own0_agg, e_appB, e_appB0, ck_sl, own0_sl, stV_sl, nodL_sl, cl_sl, okE_sl, e_mkM, e_mkI, e_mkIm, e_callB, nod_bfn, nod_ifc, nod_map, nodL_ifc, nodL_bfn, nodL_map, cl_ifc, cl_bfn, ck_ifc, ck_bfn, ck_map, stV_ifc, okE_ifc, okE_bfn, nod_arr, nodL_arr, e_addU, e_mulU, e_shrK, e_shlK, e_andK, e_cv64, e_cv32, e_callEG, e_callEY, e_callEB, e_zr, e_nilSl, e_ncP, e_ncC, e_npnP, e_npeP, e_npnC, e_npeC, e_npnN, e_npeN, e_ixAP, e_ldcP, e_ldcS, e_ldcV, e_ldcT, okE_nilP, ck_nilP, okE_nilI, ck_nilI, okE_str, ck_str, reduceIte, Int.reduceEq, Int.reduceNeg, ne_eq, not_true_eq_false, not_false_eq_true, Bool.not_true, Bool.not_false, Bool.true_or, Bool.or_true, Bool.false_or, Bool.or_false, Bool.and_true, Bool.and_false, Bool.false_and, Bool.not_not, Bool.or_self, List.length_nil, Int.ofNat_zero, Int.cast_ofNat_Int, Int.natCast_zero, beq_self_eq_true, Bool.true_eq_false, hp_set0]; subst hK hQ) | refine rn_go ?_ | refine rv_go ?_ | refine jv_go ?_) | refine sd ?_)
          refine call_ofD (c23 (enS a (scV a w) i) (a.getD i 0) ((scV a w).getD i 0) _ b2.1 (by omega) t1.1 t1.2 (by omega) (by omega)) ?_
          repeat (first | (with_reducible first | refine jn_go ?_ | refine ud_go ?_ | refine tr_go ?_ | (refine Hd.go ?_; intro K Q hK hQ; simp only [List.getD_cons_succ, List.getD_cons_zero, nod_ptr, e_sc1, Nat.zero_add, lv_cons, List.length_nil, Nat.reduceAdd, Nat.reduceLeDiff, stV_agg, List.map_cons, nodL_imm, List.map_nil, okE_agg, all_c, ck_I, all_n, Bool.and_self, and_true, cl_agg, spl_0, spl_n, true_and, nod_imm, Try.underlying3, e_add]; subst hK hQ) | refine rn_go ?_ | refine rv_go ?_ | refine jv_go ?_) | refine sd ?_)
          exact ⟨i + 1, by omega, rfl, rfl, by omega⟩
        · have d : ¬ (i : Int) < a.length := by omega
          have ei : i = a.length := by omega
          have hen : enS a (scV a w) i ≤ enS a w i := by
            rw [ei]
            have e := sc_en (w := w) hsc.A.1 hpos
            have e2 : enS a (scV a w) a.length = sm (fun i => a.getD i 0 * (scO a w i * scO a w i)) a.length := sm_congr _ fun k hk => by rw [scV_get a w hk]
            rw [e2]; exact e
          have eb : (decide (enS a (scV a w) i / 1099511627776 < enS a w i / 1099511627776) || (decide (enS a (scV a w) i / 1099511627776 = enS a w i / 1099511627776) && decide (enS a (scV a w) i % 1099511627776 ≤ enS a w i % 1099511627776))) = true := by
            simp only [Bool.or_eq_true, Bool.and_eq_true, decide_eq_true_eq]; omega
          repeat (first | (with_reducible first | refine jn_go ?_ | refine ud_go ?_ | refine tr_go ?_ | (refine Hd.go ?_; intro K Q hK hQ; simp only [d, if_false, List.getD_cons_succ, List.getD_cons_zero, nod_ptr, e_ixAP, Int.cast_ofNat_Int, Nat.mul_one, Nat.zero_add, ld_at g1, lv_cons, List.length_nil, Nat.reduceAdd, Nat.reduceLeDiff, gt0, nod_imm, ld_at g0, Try.underlying3, e_lss, nod_nod, gt1, e_leq, e_eql, e_gT, j_tl, decide_eq_true_eq, j_and', true_and, e_gF, j_fl, decide_eq_false_iff_not, j_or', eb, j_side, j_one, cond_true]; subst hK hQ) | refine rn_go ?_ | refine rv_go ?_ | refine jv_go ?_) | refine sd ?_)
          refine call_of (c17 _) ?_
          with_reducible first | refine rv_go ?_ | refine rn_go ?_ | skip
          first | exact end1 (fzI _) | exact end1A (fzI _)
      · rw [Bool.eq_false_iff.2 hB]
        repeat (first | (with_reducible first | refine jn_go ?_ | refine ud_go ?_ | refine tr_go ?_ | (refine Hd.go ?_; intro K Q hK hQ; simp only [if_true, Bool.false_eq_true, if_false, List.getD_cons_succ, List.getD_cons_zero, nod_imm, Try.underlying27, e_eql, decide_true, nod_ints, nd_no, Try.underlying3, e_len, List.length_nil, Int.cast_ofNat_Int, e_gT, cond_true, j_one]; subst hK hQ) | refine rn_go ?_ | refine rv_go ?_ | refine jv_go ?_) | refine sd ?_)
        refine call_of (c17 _) ?_
        with_reducible first | refine rv_go ?_ | refine rn_go ?_ | skip
        first | exact end1 (fzI _) | exact end1A (fzI _)
  by_cases hS : ShOk A D j g l n
  · rw [decide_eq_true hS]
    repeat (first | (with_reducible first | refine jn_go ?_ | refine ud_go ?_ | refine tr_go ?_ | (refine Hd.go ?_; intro K Q hK hQ; simp only [Bool.not_true, cond_false]; subst hK hQ) | refine rn_go ?_ | refine rv_go ?_ | refine jv_go ?_) | refine sd ?_)
    exact key
  · rw [decide_eq_false hS]
    repeat (first | (with_reducible first | refine jn_go ?_ | refine ud_go ?_ | refine tr_go ?_ | (refine Hd.go ?_; intro K Q hK hQ; simp only [Bool.not_false, cond_true]; subst hK hQ) | refine rn_go ?_ | refine rv_go ?_ | refine jv_go ?_) | refine sd ?_)
    refine call_ofD (c18 A D j g l n _ ⟨by omega, by omega⟩) ?_
    rw [if_neg hS]
    repeat (first | (with_reducible first | refine jn_go ?_ | refine ud_go ?_ | refine tr_go ?_ | (refine Hd.go ?_; intro K Q hK hQ; simp only [nod_imm, e_neq, decide_true, Bool.not_true]; subst hK hQ) | refine rn_go ?_ | refine rv_go ?_ | refine jv_go ?_) | refine sd ?_)
    exact key
end Go.Proofs.Ytpielcbpfbajlaa


set_option linter.unusedVariables false
set_option linter.unusedSimpArgs false
set_option linter.unnecessarySimpa false
set_option maxRecDepth 20000
set_option maxHeartbeats 2000000
namespace Go.Proofs.Ytpielcbpfbajlaa
open Go Go.Ab Go.Proofs
attribute [local congr] g_bin g_nilS g_nilP g_un g_ext g_bx g_fa g_ld g_st g_ix g_ixA g_slc g_mk g_bs g_bd g_nc g_cv g_len g_lenT g_app g_appB g_cpy g_mm g_call g_callG g_calm g_calmG g_range g_res g_pick g_cond g_loop g_Jv g_eqS g_eqP g_fd g_ixT g_ta g_lkp g_upd g_mkM g_appS g_inv g_callE g_callEG g_invE g_zr
open Go.ChangeShapes Go.WideShapes Go.ChangeAt Go.RowKit
theorem own : ownKnob Try.prog.godebug = none := by kernel_rfl
theorem laidOut : laidOutB Try.prog = true := by kernel_rfl
set_option maxRecDepth 100000 in
theorem lifted (os : Os) (started : os.Started) (H : Type) (enc : TypeId × Value → H) :
    ReturnsInHanded {} Try.checked os 3 .any (Rows.tractScattersSpec.pre6 enc Try.prog Try.f3 Rows.tractScattersRow.domain false) (Rows.tractScattersSpec.post enc Try.prog Try.f3 false true false false) := by
  refine returnsInHanded_of_change (C := Try.checked) own started (by kernel_rfl) Try.func3
    (ChangeSpec.witness6 (enc := enc) (C := Try.checked) false ⟨#[], #[.agg #[.slice none 0 0, .slice none 0 0, .int .i64 0, .int .i64 0, .int .i64 0, .int .i64 0], .slice none 0 0, .slice none 0 0], []⟩ 8 (by kernel_rfl) (by kernel_rfl) (by kernel_rfl) (by kernel_rfl)) ?_
  intro W base args ds gs before hval0 hW hcnd _
  have hval : ∀ (j : Nat) t v, Try.f3.params[j]? = some t → args[j]? = some v → Value.okWide Try.prog W .any base t v := hval0
  have hW' := hW
  obtain ⟨p, q, hA0, hV, rfl, hfz, hnd⟩ := hW
  have hA : DataW.TrodAll enc Try.prog W 0 (fun _ => true) true Try.f3.params.toList args.toList ds p := hA0
  rw [Try.params3] at hA hval
  obtain ⟨v0, vs0, d0, ds0, p0, q0, hargs, rfl, rfl, h0, r0⟩ := trodAll_cons hA
  obtain ⟨v1, vs1, d1, ds1, p1, q1, rfl, rfl, rfl, h1, r1⟩ := trodAll_cons r0
  obtain ⟨v2, vs2, d2, ds2, p2, q2, rfl, rfl, rfl, h2, r2⟩ := trodAll_cons r1
  obtain ⟨rfl, rfl, rfl⟩ := trodAll_nil r2
  obtain rfl : args = #[v0, v1, v2] := by cases args; simp_all
  obtain ⟨rfl, rfl⟩ := trodVars_none hV
  have lt0 : ∀ x ∈ p0, x.block < W.heap.size := by obtain ⟨m, hm⟩ := h0; exact DataW.trod_lt m _ _ _ hm
  obtain ⟨x0, e0⟩ := in_agg (g := shL) Try.underlying24 opens24 (fun _ => rfl) (hval 0 _ v0 rfl rfl) h0
  have lt1 : ∀ x ∈ p1, x.block < W.heap.size := by obtain ⟨m, hm⟩ := h1; exact DataW.trod_lt m _ _ _ hm
  obtain ⟨l1, e1, w1⟩ := in_ints Try.underlying22 Try.underlying3 (by kernel_rfl) (hval 1 _ v1 rfl rfl) h1
  have lt2 : ∀ x ∈ p2, x.block < W.heap.size := by obtain ⟨m, hm⟩ := h2; exact DataW.trod_lt m _ _ _ hm
  obtain ⟨l2, e2, w2⟩ := in_ints Try.underlying22 Try.underlying3 (by kernel_rfl) (hval 2 _ v2 rfl rfl) h2
  clear hA0 hval0
  refine (bridge (args := [.agg (shL x0), ints l1 .no, ints l2 .no]) (ra := #[v0, v1, v2]) (c3 x0.1 x0.2.1 x0.2.2.1 x0.2.2.2.1 x0.2.2.2.2.1 x0.2.2.2.2.2 l1 l2  []) rfl (by intro a ha; simp at ha; rcases ha with rfl | rfl | rfl <;> rfl) (fun i => ?_)).mono fun e W' ⟨he, bel⟩ => ?_
  · match i with
    | 0 => exact e0
    | 1 => exact e1
    | 2 => exact e2
    | i + 3 => exact .junk _
  · subst he
    exact ⟨_, rfl, _, _, _, [], _, [], hW', trodAll_mk1 (shut_bool Try.underlying4 _), (trodAll_cons_mk (Below.trod laidOut (by kernel_rfl) (of_decide_eq_true (by kernel_rfl)) h0 bel lt0) (trodAll_cons_mk (Below.trod laidOut (by kernel_rfl) (of_decide_eq_true (by kernel_rfl)) h1 bel lt1) (trodAll_cons_mk (Below.trod laidOut (by kernel_rfl) (of_decide_eq_true (by kernel_rfl)) h2 bel lt2) trodAll_mk0))), rfl, bel.frame _, fun h => by cases h⟩
theorem over : Rows.tractScattersRow.holds Try.pinned (OpenSpec.ofChange Rows.tractScattersSpec) :=
  OpenClaim.holds_of_wide 3 Try.f3 rfl rfl rfl rfl rfl rfl rfl ⟨rfl, rfl, rfl, rfl, rfl⟩ rfl rfl rfl rfl rfl (by kernel_rfl) Try.func3 (by kernel_rfl)
    (of_decide_eq_true (by kernel_rfl)) (by unfold Func.isWrapper; first | (rw [if_pos (by decide +kernel)]; kernel_rfl) | (rw [if_neg (by decide +kernel)]; exact ⟨rfl, rfl⟩))
    (fun os started H enc _ => lifted os started H enc)
theorem tractScatters_holds : Rows.TractScattersSaid := over
#print axioms tractScatters_holds
end Go.Proofs.Ytpielcbpfbajlaa

