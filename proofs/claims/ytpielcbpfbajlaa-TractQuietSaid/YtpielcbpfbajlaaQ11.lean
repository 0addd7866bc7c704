/- The law TractQuiet of the given program returns true for any play (a shape, feeds, areas) and any number, and leaves all as they were. No condition. -/
import Derived.Test.YtpielcbpfbajlaaP6
import Derived.Test.YtpielcbpfbajlaaProg
import Derived.Test.YtpielcbpfbajlaaRows
set_option linter.unusedVariables false
set_option maxRecDepth 20000
set_option maxHeartbeats 4000000
namespace Go.Proofs.Ytpielcbpfbajlaa
open Go Go.Ab Go.Proofs
def an11 : An := { imm := [2, 14], jn := [(2, [1, 2, 35]), (5, [1, 2, 5, 6, 7, 8]), (6, [1, 2, 5, 7, 62]), (11, [1, 2, 5, 7, 9]), (13, [1, 5, 7, 10, 11]), (14, [1, 5, 7, 10, 11, 95]), (15, [1, 5, 7, 10, 11]), (21, [1, 5, 7, 10, 11, 12, 13, 14, 124]), (24, [5, 150]), (29, [5, 16, 18])], lp := [(8, [1, 2, 5, 7, 9]), (17, [1, 5, 7, 10, 11, 12, 13])], loud := [], ord := [] }
def vc11 (C : Cb) (a0 a1 : V) (H : Hp) (R : List V → Hp → Prop) : Prop :=
 C.aBx true 9 a0.nod H fun (v1 : V) (H2 : Hp) =>
 Jn (fun (l3 : List V) (H4 : Hp) =>
 aCond (l3.getD 2 .junk).nod (
 C.callE 17 [] H4 fun (v6 : V) (H7 : Hp) =>
 R [v6] H7) (
 C.aFA 0 6 true (l3.getD 1 .junk).nod fun (v8 : V) =>
 C.aLd 6 true false v8.nod H4 fun (v9 : V) (H10 : Hp) =>
 C.callE 25 [v9.nod] H10 fun (v11 : V) (H12 : Hp) =>
 C.aExt 0 v11.nod.nod fun (v13 : V) =>
 C.aExt 1 v11.nod.nod fun (v14 : V) =>
 Jn (fun (l15 : List V) (H16 : Hp) =>
 Jn (fun (l18 : List V) (H19 : Hp) =>
 aCond (l18.getD 4 .junk).nod (
 R [(B false)] H19) (
 LoopA (fun (l21 : List V) (H22 : Hp) (K23 : List V → Hp → Prop) =>
 C.aFA 6 1 false (l21.getD 1 .junk).nod fun (v24 : V) =>
 C.aLd 1 false false v24.nod H22 fun (v25 : V) (H26 : Hp) =>
 C.aLen v25.nod fun (v27 : V) =>
 C.aBin (Try.prog.underlying 3) .lss (l21.getD 4 .junk).nod.nod v27.nod fun (v28 : V) =>
 aCond v28.nod (
 Jn (fun (l29 : List V) (H30 : Hp) =>
 C.aFA 6 1 false (l29.getD 1 .junk).nod fun (v32 : V) =>
 C.aLd 1 false false v32.nod H30 fun (v33 : V) (H34 : Hp) =>
 C.aIx 1 v33.nod (l29.getD 4 .junk).nod.nod fun (v35 : V) =>
 C.aLd 1 false false v35.nod H34 fun (v36 : V) (H37 : Hp) =>
 C.callE 26 [(l29.getD 3 .junk).nod.nod, v36.nod] H37 fun (v38 : V) (H39 : Hp) =>
 C.aBin (Try.prog.underlying 3) .add (l29.getD 4 .junk).nod.nod (I 1) fun (v40 : V) =>
 K23 [(l29.getD 0 .junk), (l29.getD 1 .junk), (l29.getD 2 .junk), (l29.getD 3 .junk), v40] H39)
 (fun (R31 : List V → Hp → Prop) =>
 C.aFA 6 1 false (l21.getD 1 .junk).nod fun (v41 : V) =>
 C.aLd 1 false false v41.nod H26 fun (v42 : V) (H43 : Hp) =>
 C.aIx 1 v42.nod (l21.getD 4 .junk).nod.nod fun (v44 : V) =>
 C.aLd 1 false false v44.nod H43 fun (v45 : V) (H46 : Hp) =>
 C.callE 26 [(l21.getD 2 .junk).nod.nod, v45.nod] H46 fun (v47 : V) (H48 : Hp) =>
 R31 [(l21.getD 0 .junk), (l21.getD 1 .junk), (l21.getD 2 .junk), (l21.getD 3 .junk), (l21.getD 4 .junk)] H48)) (
 Jn (fun (l49 : List V) (H50 : Hp) =>
 Jn (fun (l52 : List V) (H53 : Hp) =>
 LoopA (fun (l55 : List V) (H56 : Hp) (K57 : List V → Hp → Prop) =>
 C.aBin (Try.prog.underlying 3) .lss (l55.getD 6 .junk).nod.nod (l55.getD 0 .junk).nod.nod fun (v58 : V) =>
 aCond v58.nod (
 C.callE 26 [(l55.getD 2 .junk).nod.nod, (V.arr [] .full)] H56 fun (v59 : V) (H60 : Hp) =>
 C.aExt 0 v59.nod.nod fun (v61 : V) =>
 C.aExt 1 v59.nod.nod fun (v62 : V) =>
 C.aBx true 2 v61.nod H60 fun (v63 : V) (H64 : Hp) =>
 Jn (fun (l65 : List V) (H66 : Hp) =>
 aCond (l65.getD 8 .junk).nod (
 R [(B false)] H66) (
 C.aLd 2 true false (l65.getD 7 .junk).nod H66 fun (v68 : V) (H69 : Hp) =>
 C.aBS 2 1 (V.agg [(I 0), (I 0)]) [(0, v68.nod)] fun (v70 : V) =>
 C.aApp 2 16 (l65.getD 5 .junk) v70.nod fun (v71 : V) =>
 C.aBin (Try.prog.underlying 3) .add (l65.getD 6 .junk).nod.nod (I 1) fun (v72 : V) =>
 K57 [(l65.getD 0 .junk), (l65.getD 1 .junk), (l65.getD 2 .junk), (l65.getD 3 .junk), (l65.getD 4 .junk), v71, v72] H69))
 (fun (R67 : List V → Hp → Prop) =>
 C.aBin (Try.prog.underlying 27) .neq v62.nod.nod (I 0) fun (v73 : V) =>
 R67 [(l55.getD 0 .junk), (l55.getD 1 .junk), (l55.getD 2 .junk), (l55.getD 3 .junk), (l55.getD 4 .junk), (l55.getD 5 .junk), (l55.getD 6 .junk), v63, v73] H64)) (
 Jn (fun (l74 : List V) (H75 : Hp) =>
 aCond (l74.getD 1 .junk).nod (
 R [(B false)] H75) (
 C.callE 41 [(l74.getD 0 .junk).nod.nod] H75 fun (v77 : V) (H78 : Hp) =>
 C.aBin (Try.prog.underlying 3) .eql v77.nod (I 0) fun (v79 : V) =>
 aCond v79.nod (
 C.callE 17 [] H78 fun (v80 : V) (H81 : Hp) =>
 R [v80] H81) (
 C.callE 41 [(l74.getD 0 .junk).nod.nod] H78 fun (v82 : V) (H83 : Hp) =>
 Jn (fun (l84 : List V) (H85 : Hp) =>
 C.aBin (Try.prog.underlying 27) .eql (l84.getD 2 .junk).nod.nod (I 4) fun (v87 : V) =>
 Jv (fun (v88 : V) (H89 : Hp) =>
 Jv (fun (v94 : V) (H95 : Hp) =>
 R [v94] H95)
 (fun (R96 : V → Hp → Prop) =>
 aG v88.nod true (
 C.callE 17 [] H89 fun (v97 : V) (H98 : Hp) =>
 R96 v97.nod H98) (
 R96 (B false) H89)))
 (fun (R90 : V → Hp → Prop) =>
 aG v87.nod true (
 C.callE 41 [(l84.getD 0 .junk).nod.nod] H85 fun (v91 : V) (H92 : Hp) =>
 C.aBin (Try.prog.underlying 3) .eql v91.nod (l84.getD 1 .junk).nod.nod fun (v93 : V) =>
 R90 v93.nod H92) (
 R90 (B false) H85)))
 (fun (R86 : List V → Hp → Prop) =>
 C.callE 39 [(l74.getD 0 .junk).nod.nod, (I 100000)] H83 fun (v99 : V) (H100 : Hp) =>
 C.aExt 0 v99.nod.nod fun (v101 : V) =>
 C.aExt 1 v99.nod.nod fun (v102 : V) =>
 R86 [(l74.getD 0 .junk), v82, v102] H100))))
 (fun (R76 : List V → Hp → Prop) =>
 C.aBin (Try.prog.underlying 27) .neq (l55.getD 4 .junk).nod.nod (I 0) fun (v103 : V) =>
 Jv (fun (v104 : V) (H105 : Hp) =>
 Jv (fun (v110 : V) (H111 : Hp) =>
 Jv (fun (v118 : V) (H119 : Hp) =>
 R76 [(l55.getD 1 .junk), v118] H119)
 (fun (R120 : V → Hp → Prop) =>
 aG v110.nod false (
 C.callE 41 [(l55.getD 1 .junk).nod.nod] H111 fun (v121 : V) (H122 : Hp) =>
 C.callE 41 [(l55.getD 2 .junk).nod.nod] H122 fun (v123 : V) (H124 : Hp) =>
 C.aBin (Try.prog.underlying 3) .neq v121.nod v123.nod fun (v125 : V) =>
 R120 v125.nod H124) (
 R120 (B true) H111)))
 (fun (R112 : V → Hp → Prop) =>
 aG v104.nod false (
 C.callE 27 [(l55.getD 1 .junk).nod.nod] H105 fun (v113 : V) (H114 : Hp) =>
 C.callE 27 [(l55.getD 2 .junk).nod.nod] H114 fun (v115 : V) (H116 : Hp) =>
 C.aBin (Try.prog.underlying 3) .neq v113.nod v115.nod fun (v117 : V) =>
 R112 v117.nod H116) (
 R112 (B true) H105)))
 (fun (R106 : V → Hp → Prop) =>
 aG v103.nod false (
 C.callE 42 [(l55.getD 3 .junk).nod.nod, (l55.getD 5 .junk).nod.nod] H56 fun (v107 : V) (H108 : Hp) =>
 C.aUn .not v107.nod fun (v109 : V) =>
 R106 v109.nod H108) (
 R106 (B true) H56)))))
 [(l52.getD 0 .junk), (l52.getD 1 .junk), (l52.getD 2 .junk), (l52.getD 3 .junk), (l52.getD 4 .junk), (V.arr [] .full), (I 0)] H53)
 (fun (R54 : List V → Hp → Prop) =>
 Jn (fun (l126 : List V) (H127 : Hp) =>
 aCond (l126.getD 5 .junk).nod (
 C.aBin (Try.prog.underlying 27) .eql (l126.getD 4 .junk).nod.nod (I 2) fun (v129 : V) =>
 Jv (fun (v130 : V) (H131 : Hp) =>
 Jv (fun (v135 : V) (H136 : Hp) =>
 Jv (fun (v143 : V) (H144 : Hp) =>
 R [v143] H144)
 (fun (R145 : V → Hp → Prop) =>
 aG v135.nod true (
 C.callE 17 [] H136 fun (v146 : V) (H147 : Hp) =>
 R145 v146.nod H147) (
 R145 (B false) H136)))
 (fun (R137 : V → Hp → Prop) =>
 aG v130.nod true (
 C.callE 41 [(l126.getD 1 .junk).nod.nod] H131 fun (v138 : V) (H139 : Hp) =>
 C.callE 41 [(l126.getD 2 .junk).nod.nod] H139 fun (v140 : V) (H141 : Hp) =>
 C.aBin (Try.prog.underlying 3) .eql v138.nod v140.nod fun (v142 : V) =>
 R137 v142.nod H141) (
 R137 (B false) H131)))
 (fun (R132 : V → Hp → Prop) =>
 aG v129.nod true (
 C.aLen (l126.getD 3 .junk).nod.nod fun (v133 : V) =>
 C.aBin (Try.prog.underlying 3) .eql v133.nod (I 0) fun (v134 : V) =>
 R132 v134.nod H127) (
 R132 (B false) H127))) (
 R54 [(l126.getD 0 .junk), (l126.getD 1 .junk), (l126.getD 2 .junk), (l126.getD 3 .junk), (l126.getD 4 .junk)] H127))
 (fun (R128 : List V → Hp → Prop) =>
 C.aBin (Try.prog.underlying 3) .lss (l49.getD 0 .junk).nod.nod (I 0) fun (v148 : V) =>
 Jv (fun (v149 : V) (H150 : Hp) =>
 R128 [(l49.getD 0 .junk), (l49.getD 1 .junk), (l49.getD 2 .junk), (l49.getD 3 .junk), (l49.getD 4 .junk), v149] H150)
 (fun (R151 : V → Hp → Prop) =>
 aG v148.nod false (
 C.aBin (Try.prog.underlying 3) .gtr (l49.getD 0 .junk).nod.nod (I 100000) fun (v152 : V) =>
 R151 v152.nod H50) (
 R151 (B true) H50)))))
 (fun (R51 : List V → Hp → Prop) =>
 C.callE 39 [(l21.getD 2 .junk).nod.nod, (l21.getD 0 .junk).nod.nod] H26 fun (v153 : V) (H154 : Hp) =>
 C.aExt 0 v153.nod.nod fun (v155 : V) =>
 C.aExt 1 v153.nod.nod fun (v156 : V) =>
 R51 [(l21.getD 0 .junk), (l21.getD 2 .junk), (l21.getD 3 .junk), v155, v156] H154)))
 [(l18.getD 0 .junk), (l18.getD 1 .junk), (l18.getD 2 .junk), (l18.getD 3 .junk), (I 0)] H19))
 (fun (R20 : List V → Hp → Prop) =>
 C.aBin (Try.prog.underlying 27) .neq (l15.getD 3 .junk).nod.nod (I 0) fun (v157 : V) =>
 Jv (fun (v158 : V) (H159 : Hp) =>
 Jv (fun (v162 : V) (H163 : Hp) =>
 Jv (fun (v166 : V) (H167 : Hp) =>
 R20 [(l15.getD 0 .junk), (l15.getD 1 .junk), (l15.getD 2 .junk), (l15.getD 4 .junk), v166] H167)
 (fun (R168 : V → Hp → Prop) =>
 aG v162.nod false (
 C.aNilP (Try.prog.underlying 41) .eql (l15.getD 4 .junk).nod.nod fun (v169 : V) =>
 R168 v169.nod H163) (
 R168 (B true) H163)))
 (fun (R164 : V → Hp → Prop) =>
 aG v158.nod false (
 C.aNilP (Try.prog.underlying 41) .eql (l15.getD 2 .junk).nod.nod fun (v165 : V) =>
 R164 v165.nod H159) (
 R164 (B true) H159)))
 (fun (R160 : V → Hp → Prop) =>
 aG v157.nod false (
 C.aBin (Try.prog.underlying 27) .neq (l15.getD 5 .junk).nod.nod (I 0) fun (v161 : V) =>
 R160 v161.nod H16) (
 R160 (B true) H16))))
 (fun (R17 : List V → Hp → Prop) =>
 C.aFA 0 6 true (l3.getD 1 .junk).nod fun (v170 : V) =>
 C.aLd 6 true false v170.nod H12 fun (v171 : V) (H172 : Hp) =>
 C.callE 25 [v171.nod] H172 fun (v173 : V) (H174 : Hp) =>
 C.aExt 0 v173.nod.nod fun (v175 : V) =>
 C.aExt 1 v173.nod.nod fun (v176 : V) =>
 R17 [(l3.getD 0 .junk), (l3.getD 1 .junk), v13, v14, v175, v176] H174)))
 (fun (R5 : List V → Hp → Prop) =>
 C.aLd 9 true false v1.nod H2 fun (v177 : V) (H178 : Hp) =>
 C.callE 24 [v177.nod] H178 fun (v179 : V) (H180 : Hp) =>
 C.aUn .not v179.nod fun (v181 : V) =>
 Jv (fun (v182 : V) (H183 : Hp) =>
 Jv (fun (v191 : V) (H192 : Hp) =>
 R5 [a1, v1, v191] H192)
 (fun (R193 : V → Hp → Prop) =>
 aG v182.nod false (
 C.aBin (Try.prog.underlying 3) .gtr a1.nod.nod (I 100) fun (v194 : V) =>
 aG v194.nod true (
 C.aBin (Try.prog.underlying 3) .leq a1.nod.nod (I 100000) fun (v195 : V) =>
 R193 v195.nod.nod H183) (
 R193 (B false) H183)) (
 UD = UD ∧
 UD = UD ∧
 R193 (B true) H183)))
 (fun (R184 : V → Hp → Prop) =>
 aG v181.nod false (
 C.aFA 0 6 true v1.nod fun (v185 : V) =>
 C.aLd 6 true false v185.nod H180 fun (v186 : V) (H187 : Hp) =>
 C.callE 19 [v186.nod] H187 fun (v188 : V) (H189 : Hp) =>
 C.aUn .not v188.nod fun (v190 : V) =>
 R184 v190.nod H189) (
 R184 (B true) H180)))
theorem wf11 : (Nat.ble 2 Try.f11.ntmps && wfC an11 Try.f11.ntmps (Try.f11.body.getD .skip)) = true := by kernel_rfl
theorem tie11 (C : Cb) (a0 a1 : V) (H : Hp) (R : List V → Hp → Prop) : wpG Try.prog C an11 (Try.f11.body.getD .skip) (argF [a0, a1]) H (retG Try.prog C Try.f11 R) (fun _ _ _ => False) (retG Try.prog C Try.f11 R) = vc11 C a0 a1 H R := by kernel_rfl
theorem mk11 (a0 a1 : V) {H : Hp} {v : V} {H1 : Hp} (hd : v.Nd) (hn : H.length ≤ H1.length) (hb : H1 = H ∨ ∀ (b : Nat) (blk : Blk), H1[b]? = some blk → H[b]? = some blk ∨ BelB H1.length blk) (h : vc11 (real Try.prog) a0 a1 H (retF v H1)) : Ret Try.prog 11 [a0, a1] H v H1 :=
  ret_mk (an := an11) hm Try.call11 Try.func11 rfl wf11 hd hn hb (Eq.mpr (tie11 (real Try.prog) a0 a1 H (retF v H1)) h)
theorem mkE11 (a0 a1 : V) {H : Hp} {Q : V → Hp → Prop} (h : vc11 (real Try.prog) a0 a1 H (retW Q)) : RetE Try.prog 11 [a0, a1] H Q :=
  retE_mk (an := an11) hm Try.call11 Try.func11 rfl wf11 (Eq.mpr (tie11 (real Try.prog) a0 a1 H (retW Q)) h)
theorem mko11 (a0 a1 : V) {H : Hp} {xs : List V} {H1 : Hp} (hn : H.length ≤ H1.length) (hb : H1 = H ∨ ∀ (b : Nat) (blk : Blk), H1[b]? = some blk → H[b]? = some blk ∨ BelB H1.length blk) (h : vc11 (real Try.prog) a0 a1 H (retO xs H1)) : Ret Try.prog 11 [a0, a1] H (.arr xs .own) H1 :=
  ret_mko (an := an11) (t := 4) hm Try.call11 Try.func11 rfl wf11 rfl hn hb (Eq.mpr (tie11 (real Try.prog) a0 a1 H (retO xs H1)) h)
end Go.Proofs.Ytpielcbpfbajlaa


set_option linter.unusedVariables false
set_option linter.unusedSimpArgs false
set_option linter.unnecessarySimpa false
set_option maxRecDepth 20000
set_option maxHeartbeats 2000000
namespace Go.Proofs.Ytpielcbpfbajlaa
open Go Go.Ab Go.Proofs
attribute [local congr] g_bin g_nilS g_nilP g_un g_ext g_bx g_fa g_ld g_st g_ix g_ixA g_slc g_mk g_bs g_bd g_nc g_cv g_len g_lenT g_app g_appB g_cpy g_mm g_call g_callG g_calm g_calmG g_range g_res g_pick g_cond g_loop g_Jv g_eqS g_eqP g_fd g_ixT g_ta g_lkp g_upd g_mkM g_appS g_inv g_callE g_callEG g_invE g_zr
theorem c11 (A D : List Int) (j g l n : Int) (Fd : List (List (Int × Int))) (Ar Br : List (List Int)) (s : Int) (H : Hp) : Ret Try.prog 11 [plA A D j g l n Fd Ar Br, I s] H (B true) H := by
  refine mk11 _ _ rfl (Nat.le_refl _) (.inl rfl) ?_
  simp only [vc11, real]
  repeat (first | (with_reducible first | refine jn_go ?_ | refine ud_go ?_ | refine tr_go ?_ | (refine Hd.go ?_; intro K Q hK hQ; simp only [nod_agg, List.map_cons, nodL_ints, nd_no, nodL_imm, nodL_arr, nodL_lists, List.map_nil, e_bxI, okE_agg, lv_cons, List.length_nil, Nat.zero_add, Nat.reduceAdd, all_c, ck_ints, ck_I, ck_arr, ck_lists, all_n, Bool.and_self, and_true, true_and, nod_cptr, e_ldcA]; subst hK hQ) | refine rn_go ?_ | refine rv_go ?_ | refine jv_go ?_) | refine sd ?_)
  refine call_of (c24 A D j g l n Fd Ar Br _) ?_
  repeat (first | (with_reducible first | refine jn_go ?_ | refine ud_go ?_ | refine tr_go ?_ | (refine Hd.go ?_; intro K Q hK hQ; simp only [nod_imm, e_not, nod_cptr, e_facA, Nat.zero_add, lv_cons, List.length_nil, Nat.reduceAdd, Nat.reduceLeDiff, dr_0, tk_s, tk_0, e_ldcA, nod_agg, List.map_cons, nodL_ints, nd_no, nodL_imm, List.map_nil, true_and, e_gF]; subst hK hQ) | refine rn_go ?_ | refine rv_go ?_ | refine jv_go ?_) | refine sd ?_)
  by_cases hf : fits A D Fd Ar Br = true
  · rw [hf]
    repeat (first | (with_reducible first | refine jn_go ?_ | refine ud_go ?_ | refine tr_go ?_ | (refine Hd.go ?_; intro K Q hK hQ; simp only [Bool.not_true, cond_false]; subst hK hQ) | refine rn_go ?_ | refine rv_go ?_ | refine jv_go ?_) | refine sd ?_)
    have hf' := fits_iff.1 hf
    refine call_of (c19 A D j g l n _ ⟨by omega, by omega⟩) ?_
    by_cases hS : ShOk A D j g l n
    · rw [decide_eq_true hS]
      repeat (first | (with_reducible first | refine jn_go ?_ | refine ud_go ?_ | refine tr_go ?_ | (refine Hd.go ?_; intro K Q hK hQ; simp only [nod_imm, e_not, Bool.not_true, Try.underlying3, nod_nod, e_leq, e_gtr, e_gT, j_and', true_and, e_gF, cond_false, j_one, List.getD_cons_succ, List.getD_cons_zero, e_cond]; subst hK hQ) | refine rn_go ?_ | refine rv_go ?_ | refine jv_go ?_) | refine sd ?_)
      by_cases hs : (decide (100 < s) && decide (s ≤ 100000)) = true
      · repeat (first | (with_reducible first | refine jn_go ?_ | refine ud_go ?_ | refine tr_go ?_ | (refine Hd.go ?_; intro K Q hK hQ; simp only [hs, if_true]; subst hK hQ) | refine rn_go ?_ | refine rv_go ?_ | refine jv_go ?_) | refine sd ?_)
        refine call_of (c17 _) ?_
        with_reducible first | refine rv_go ?_ | refine rn_go ?_ | skip
        first | exact end1 (fzI _) | exact end1A (fzI _)
      have hs' := hs
      simp only [Bool.and_eq_true, decide_eq_true_eq, not_and, Int.not_le] at hs'
      repeat (first | (with_reducible first | refine jn_go ?_ | refine ud_go ?_ | refine tr_go ?_ | (refine Hd.go ?_; intro K Q hK hQ; simp only [hs, Bool.false_eq_true, if_false, List.getD_cons_succ, List.getD_cons_zero, nod_cptr, e_facA, Nat.zero_add, lv_cons, List.length_nil, Nat.reduceAdd, Nat.reduceLeDiff, dr_0, tk_s, tk_0, true_and, e_ldcA, nod_agg, List.map_cons, nodL_ints, nd_no, nodL_imm, List.map_nil]; subst hK hQ) | refine rn_go ?_ | refine rv_go ?_ | refine jv_go ?_) | refine sd ?_)
      refine callE_of (c25 A D j g l n _ ⟨by omega, by omega⟩) ?_
      intro v H1 hq
      rw [if_pos hS] at hq
      obtain ⟨b, bA, bD, bw, rfl, hb, hT, hF⟩ := hq
      repeat (first | (with_reducible first | refine jn_go ?_ | refine ud_go ?_ | refine tr_go ?_ | (refine Hd.go ?_; intro K Q hK hQ; simp only [nod_tup, List.map_cons, nod2_imm, List.map_nil, e_x20, e_x21, List.getD_cons_succ, List.getD_cons_zero, nod_cptr, e_facA, Nat.zero_add, lv_cons, List.length_nil, Nat.reduceAdd, Nat.reduceLeDiff, dr_0, tk_s, tk_0, true_and, e_ldcA, nod_agg, nodL_ints, nd_no, nodL_imm]; subst hK hQ) | refine rn_go ?_ | refine rv_go ?_ | refine jv_go ?_) | refine sd ?_)
      refine callE_of (c25 A D j g l n _ ⟨by omega, by omega⟩) ?_
      intro v H2 hq
      rw [if_pos hS] at hq
      obtain ⟨b', bA', bD', bw', rfl, hb', hT', hF'⟩ := hq
      repeat (first | (with_reducible first | refine jn_go ?_ | refine ud_go ?_ | refine tr_go ?_ | (refine Hd.go ?_; intro K Q hK hQ; simp only [nod_tup, List.map_cons, nod2_ptr, nod2_imm, List.map_nil, e_x20, e_x21, List.getD_cons_zero, List.getD_cons_succ, nod_imm, Try.underlying27, e_neq, decide_true, Bool.not_true, e_gF, cond_false, j_one, nod_ptr, Try.underlying41, e_npeP, e_cond, Bool.false_eq_true, if_false]; subst hK hQ) | refine rn_go ?_ | refine rv_go ?_ | refine jv_go ?_) | refine sd ?_)
      generalize hS0 : TS.new A D j g l n = S0 at *
      have in0 : S0.In 0 := by rw [← hS0]; exact TS.in_new hS
      have st0 : S0.st = 0 := by rw [← hS0]; rfl
      have o1 := hT.off hb'.1
      have o2 := off_hi (S := S0) hb' hT.lt.1
      have hHb' : H.length ≤ b' := Nat.le_trans hF.1 hb'.1
      have rok : ∀ i, i ≤ Fd.length → (S0.run (Fd.take i)).In 30000 ∧ 0 ≤ (S0.run (Fd.take i)).st ∧ (S0.run (Fd.take i)).st ≤ 60 := fun i hi => by
        have hl : (Fd.take i).length = i := by rw [List.length_take]; omega
        have q := TS.run_ok in0 (by omega) (Fd.take i) (by omega)
        exact ⟨q.1.mono (by omega), q.2.1, by omega⟩
      refine loop_of (fun q : Nat × Hp × Nat × Nat => q.1 ≤ Fd.length ∧ TubeAt q.2.1 b bA bD q.2.2.1 (S0.run (Fd.take q.1)) ∧ TubeAt q.2.1 b' bA' bD' q.2.2.2 (S0.run (Fd.take q.1)) ∧ Off b bA bD q.2.2.1 (S0.run (Fd.take q.1)) b' ∧ Off b' bA' bD' q.2.2.2 (S0.run (Fd.take q.1)) b ∧ Fr0 H q.2.1)
        (fun q => [I s, .cptr (plA A D j g l n Fd Ar Br), .ptr b 0, .ptr b' 0, I q.1]) (fun q => q.2.1) (fun q => Fd.length - q.1) (0, H2, bw, bw') ⟨Nat.zero_le _, hT.fr hF', hT', o1, o2, hF.trans hF'⟩ rfl rfl ?_
      rintro ⟨i, G, w1, w2⟩ ⟨hi, t1, t2, p1, p2, hG⟩
      dsimp only at hi t1 t2 p1 p2 hG
      obtain ⟨r1, r2, r3⟩ := rok i hi
      have bG := t1.lt.1
      have bG' := t2.lt.1
      repeat (first | (with_reducible first | refine jn_go ?_ | refine ud_go ?_ | refine tr_go ?_ | (refine Hd.go ?_; intro K Q hK hQ; simp only [List.getD_cons_succ, List.getD_cons_zero, nod_cptr, e_fac, Nat.reduceAdd, lv_cons, List.length_nil, Nat.zero_add, Nat.reduceLeDiff, true_and, e_ldcV, nod_arr, nd_no, e_lenA, List.length_map, nod_imm, Try.underlying3, e_lss, e_cond, decide_eq_true_eq]; subst hK hQ) | refine rn_go ?_ | refine rv_go ?_ | refine jv_go ?_) | refine sd ?_)
      by_cases hlt : i < Fd.length
      · have d : (i : Int) < Fd.length := by omega
        have hy := hf'.2.2.2.2.1 i hlt
        have eT := TS.run_take S0 Fd hlt
        generalize hyy : Fd.getD i [] = y at *
        repeat (first | (with_reducible first | refine jn_go ?_ | refine ud_go ?_ | refine tr_go ?_ | (refine Hd.go ?_; intro K Q hK hQ; simp only [d, if_true, List.getD_cons_succ, List.getD_cons_zero, nod_cptr, e_fac, Nat.reduceAdd, lv_cons, List.length_nil, Nat.zero_add, Nat.reduceLeDiff, true_and, e_ldcV, nod_arr, nd_no, nod_imm, ixF, Int.toNat_natCast, hyy, nod_ptr]; subst hK hQ) | refine rn_go ?_ | refine rv_go ?_ | refine jv_go ?_) | refine sd ?_)
        refine cStep (f := .no) t1 r1 (by omega) r2 (by omega) (by omega) (.inl rfl) ?_
        intro G2 w1' hw1 u1 f1
        repeat (first | (with_reducible first | refine jn_go ?_ | refine ud_go ?_ | refine tr_go ?_ | (refine Hd.go ?_; intro K Q hK hQ; simp only [List.getD_cons_zero, List.getD_cons_succ, nod_cptr, e_fac, Nat.reduceAdd, lv_cons, List.length_nil, Nat.zero_add, Nat.reduceLeDiff, true_and, e_ldcV, nod_arr, nd_no, nod_imm, ixF, Int.toNat_natCast, hyy, nod_ptr]; subst hK hQ) | refine rn_go ?_ | refine rv_go ?_ | refine jv_go ?_) | refine sd ?_)
        refine cStep (f := .no) (t2.frame f1 p2) r1 (by omega) r2 (by omega) (by omega) (.inl rfl) ?_
        intro G3 w2' hw2 u2 f2
        repeat (first | (with_reducible first | refine jn_go ?_ | refine ud_go ?_ | refine tr_go ?_ | (refine Hd.go ?_; intro K Q hK hQ; simp only [List.getD_cons_succ, List.getD_cons_zero, nod_imm, Try.underlying3, e_add]; subst hK hQ) | refine rn_go ?_ | refine rv_go ?_ | refine jv_go ?_) | refine sd ?_)
        refine ⟨(i + 1, G3, w1', w2'), ⟨by show i + 1 ≤ Fd.length; omega, ?_, ?_, ?_, ?_, ?_⟩, rfl, rfl, by show Fd.length - (i + 1) < Fd.length - i; omega⟩
        · show TubeAt G3 b bA bD w1' (S0.run (Fd.take (i + 1)))
          rw [eT]
          exact u1.frame f2 (p1.nx y hw1 bG')
        · show TubeAt G3 b' bA' bD' w2' (S0.run (Fd.take (i + 1)))
          rw [eT]; exact u2
        · show Off b bA bD w1' (S0.run (Fd.take (i + 1))) b'
          rw [eT]; exact p1.nx y hw1 bG'
        · show Off b' bA' bD' w2' (S0.run (Fd.take (i + 1))) b
          rw [eT]; exact p2.nx y hw2 (Nat.lt_of_lt_of_le bG f1.1)
        · exact (hG.step f1 hb.1).step f2 hHb'
      · have d : ¬ (i : Int) < Fd.length := by omega
        repeat (first | (with_reducible first | refine jn_go ?_ | refine ud_go ?_ | refine tr_go ?_ | (refine Hd.go ?_; intro K Q hK hQ; simp only [d, if_false, List.getD_cons_succ, List.getD_cons_zero, nod_ptr, nod_imm]; subst hK hQ) | refine rn_go ?_ | refine rv_go ?_ | refine jv_go ?_) | refine sd ?_)
        generalize S0.run (Fd.take i) = S at *
        by_cases hr : (decide (s < 0) || decide (100000 < s)) = true
        · refine callE_of (c39 b bA bD w1 S s _ t1 (fun h1 h2 _ k _ => (r1.stepN (by decide) k).ok (by decide)) (r1.ok (by decide)) r2 (by omega)) ?_
          intro v G2 hq
          have hin : inB s 0 100000 = false := by
            rw [inB_not]
            simp only [Bool.or_eq_true, decide_eq_true_eq] at hr; omega
          rw [if_pos hin] at hq
          obtain ⟨rfl, rfl⟩ := hq
          repeat (first | (with_reducible first | refine jn_go ?_ | refine ud_go ?_ | refine tr_go ?_ | (refine Hd.go ?_; intro K Q hK hQ; simp only [nod_tup, List.map_cons, nod2_arr, nd_full, nod2_imm, List.map_nil, e_x20, e_x21, List.getD_cons_zero, List.getD_cons_succ, nod_imm, Try.underlying3, e_lss, e_gtr, e_gF, j_or', hr, j_one, e_cond, if_true, Try.underlying27, e_eql, decide_true, nod_arr, e_lenA, List.length_nil, Int.cast_ofNat_Int, e_gT, cond_true, nod_ptr]; subst hK hQ) | refine rn_go ?_ | refine rv_go ?_ | refine jv_go ?_) | refine sd ?_)
          refine call_of (c41 b bA bD w1 S _ t1 (r1.ok (by decide))) ?_
          repeat (first | (with_reducible first | refine jn_go ?_ | refine ud_go ?_ | refine tr_go ?_ | (refine Hd.go ?_; intro K Q hK hQ; simp only [Try.underlying3, Try.underlying4, Try.underlying22, Try.underlying27, Try.underlying123, Try.underlying91, Try.underlying41, Try.underlying107, j_one, j_side, j_tl, j_fl, nod_nod, nod_imm, nod_ints, nd_no, nd_own, nd_full, nd_fO, oF_ap, oF_succ, nod_sl, nod_ptr, nod_cptr, nod_fn, nod_junk, nodL_imm, nod_agg, nod_tup, nod2_imm, nod2_agg, cl_imm, cl_ints, cl_agg, e_add, e_sub, e_mul, e_quo, e_rem, e_eql, e_neq, e_lss, e_leq, e_gtr, e_geq, e_beq, e_bne, e_neg, e_not, e_pick, e_cond, e_gT, e_gF, e_len, e_lenA, e_lenS, e_ix, e_ixS, e_ldc, e_ldci, e_fa, rep_cl, rep_I, e_bx, okE_I, okE_B, okE_E8, okE_ints, stV_imm, stV_ints, j_and', j_or', List.getD_cons_zero, List.getD_cons_succ, List.map_cons, List.map_nil, decide_eq_true_eq, Int.toNat_natCast, Nat.mul_one, Nat.zero_add, true_and, and_true, List.length_map, Bool.not_eq_true', decide_eq_false_iff_not, nod_lists, e_lenL, e_ixL, okE_lists, bs1, bs1L, bs2L, e_app, e_appL, e_app0, e_app0L, e_slcLo, e_slcHi, e_slcLH, e_slcHH, e_slcLHH, e_callG, e_callY, e_calmG, e_slS0, e_slSLo, e_slSHi, e_slSLH, e_slSHH, e_slSLHH, e_max2, e_min2, e_max3, e_x20, e_x21, e_x30, e_x31, e_x32, nod2_ints, nod2_lists, rep_fl, bs0, e_nilE, if_true, if_false, cond_true, cond_false, decide_true, decide_false, eq_self, Bool.false_eq_true, false_implies, true_implies, ap_own, ap_full, e_slcLoL, e_slcHiL, e_slcLHL, hp_assoc, hp_cons, hp_nil, hp_len, hp_len_cons, hp_len_nil, lv_cons, lv_nil, vs_0, vs_s, spl_s, spl_0, spl_n, dr_s, dr_0, tk_s, tk_0, e_bxI, e_fac, e_facA, e_ldcA, e_ldcL, e_ldcF, okE_agg, ck_I, ck_B, ck_ints, ck_lists, ck_arr, ck_ptr, ck_cptr, ck_fn, all_c, all_n, stV_agg, stV_lists, stV_arr, stV_ptr, stV_cptr, stV_fn, nodL_ints, nodL_lists, nodL_ptr, nodL_cptr, nodL_fn, nodL_arr0, cl_arr, cl_ptr, cl_cptr, cl_fn, cl_lists, okE_arr, okE_fn, okE_ptr, okE_cptr, e_bd0, e_bd1, Nat.reduceAdd, Nat.reduceLeDiff, Nat.reduceEqDiff, Nat.add_zero, Bool.and_self, Bool.true_and, Bool.and_true, e_lc0, e_lA0, e_lM0, e_sc0, e_rc0, e_rA0, e_lI0, e_sI0, e_cI0, e_lc1, e_lA1, e_lM1, e_sc1, e_rc1, e_rA1, e_lI1, e_sI1, e_cI1, e_lc2, e_lA2, e_lM2, e_sc2, e_rc2, e_rA2, e_lI2, e_sI2, e_cI2, e_lc3, e_lA3, e_lM3, e_sc3, e_rc3, e_rA3, e_lI3, e_sI3, e_cI3, e_lc4, e_lA4, e_lM4, e_sc4, e_rc4, e_rA4, e_lI4, e_sI4, e_cI4, e_lc5, e_lA5, e_lM5, e_sc5, e_rc5, e_rA5, e_lI5, e_sI5, e_cI5, own0_arr, own0_ints, own0_lists, own0_imm, own0_ptr, own0_cptr, own0_fn, own0_agg, e_appB, e_appB0, ck_sl, own0_sl, stV_sl, nodL_sl, cl_sl, okE_sl, e_mkM, e_mkI, e_mkIm, e_callB, nod_bfn, nod_ifc, nod_map, nodL_ifc, nodL_bfn, nodL_map, cl_ifc, cl_bfn, ck_ifc, ck_bfn, ck_map, stV_ifc, okE_ifc, okE_bfn, nod_arr, nodL_arr, e_addU, e_mulU, e_shrK, e_shlK, e_andK, e_cv64, e_cv32, e_callEG, e_callEY, e_callEB, e_zr, e_nilSl, e_ncP, e_ncC, e_npnP, e_npeP, e_npnC, e_npeC, e_npnN, e_npeN, e_ixAP, e_ldcP, e_ldcS, e_ldcV, e_ldcT, okE_nilP, ck_nilP, okE_nilI, ck_nilI, okE_str, ck_str, reduceIte, Int.reduceEq, Int.reduceNeg, ne_eq, not_true_eq_false, not_false_eq_true, Bool.not_true, Bool.not_false, Bool.true_or, Bool.or_true, Bool.false_or, Bool.or_false, Bool.and_true, Bool.and_false, Bool.false_and, Bool.not_not, Bool.or_self, List.length_nil, Int.ofNat_zero, Int.cast_ofNat_Int, Int.natCast_zero, beq_self_eq_true, Bool.true_eq_false]; subst hK hQ) | refine rn_go ?_ | refine rv_go ?_ | refine jv_go ?_) | refine sd ?_)
          refine call_of (c41 b' bA' bD' w2 S _ t2 (r1.ok (by decide))) ?_
          repeat (first | (with_reducible first | refine jn_go ?_ | refine ud_go ?_ | refine tr_go ?_ | (refine Hd.go ?_; intro K Q hK hQ; simp only [nod_imm, e_eql, decide_true, e_gT, cond_true]; subst hK hQ) | refine rn_go ?_ | refine rv_go ?_ | refine jv_go ?_) | refine sd ?_)
          refine call_of (c17 _) ?_
          with_reducible first | refine rv_go ?_ | refine rn_go ?_ | skip
          exact end1F hG
        · have hr' := hr
          simp only [Bool.or_eq_true, decide_eq_true_eq, not_or, Int.not_lt] at hr'
          refine cRest t1 r1 (by decide) r2 hr'.1 (by omega) ?_
          intro f G2 w1' hfd hw1 u1 f1
          have hfr2 : Fr0 H G2 := hG.step f1 hb.1
          have al := TS.stepN_all S s.toNat
          have ast := TS.stepN_st S s.toNat
          have in1 := r1.stepN (by decide) s.toNat
          have p1' : Off b bA bD w1' (S.stepN s.toNat) b' := p1.to al.2.1 (hw1.symm) bG'
          have u2 := t2.frame f1 p2
          have lo : (S.outs s.toNat).length = s.toNat := by simp [TS.outs]
          repeat (first | (with_reducible first | refine jn_go ?_ | refine ud_go ?_ | refine tr_go ?_ | (refine Hd.go ?_; intro K Q hK hQ; simp only [nod_tup, List.map_cons, nod2_arr, hfd, nod2_imm, List.map_nil, e_x20, e_x21, List.getD_cons_zero, List.getD_cons_succ, nod_imm, Try.underlying3, e_lss, e_gtr, e_gF, j_or', hr, j_one, e_cond, Bool.false_eq_true, if_false]; subst hK hQ) | refine rn_go ?_ | refine rv_go ?_ | refine jv_go ?_) | refine sd ?_)
          refine loop_of (fun q : Nat × Hp × Nat => q.1 ≤ s.toNat ∧ TubeAt q.2.1 b bA bD w1' (S.stepN s.toNat) ∧ TubeAt q.2.1 b' bA' bD' q.2.2 (S.stepN q.1) ∧ Fr0 H q.2.1)
            (fun q => [I s, .ptr b 0, .ptr b' 0, .arr ((S.outs s.toNat).map fdV) f, I 0, .arr ((S.outs q.1).map fdV) (oF q.1), I q.1]) (fun q => q.2.1) (fun q => s.toNat - q.1) (0, G2, w2) ⟨Nat.zero_le _, u1, u2, hfr2⟩ rfl rfl ?_
          rintro ⟨k, G3, w3⟩ ⟨hk, v1, v2, hG3⟩
          dsimp only at hk v1 v2 hG3
          have ink := r1.stepN (by decide) k
          have stk := TS.stepN_st S k
          repeat (first | (with_reducible first | refine jn_go ?_ | refine ud_go ?_ | refine tr_go ?_ | (refine Hd.go ?_; intro K Q hK hQ; simp only [List.getD_cons_succ, List.getD_cons_zero, nod_imm, Try.underlying3, e_lss, e_cond, decide_eq_true_eq]; subst hK hQ) | refine rn_go ?_ | refine rv_go ?_ | refine jv_go ?_) | refine sd ?_)
          by_cases hkt : k < s.toNat
          · have d : (k : Int) < s := by omega
            repeat (first | (with_reducible first | refine jn_go ?_ | refine ud_go ?_ | refine tr_go ?_ | (refine Hd.go ?_; intro K Q hK hQ; simp only [d, if_true, List.getD_cons_succ, List.getD_cons_zero, nod_ptr]; subst hK hQ) | refine rn_go ?_ | refine rv_go ?_ | refine jv_go ?_) | refine sd ?_)
            refine cStep (l := []) (f := .full) v2 ink (by omega) (by omega) (by omega) (by simp) (.inr rfl) ?_
            intro G4 w4 hw4 x2 f4
            rw [er_nil, hd_nil]
            rw [nx_nil] at x2
            have lk : (S.outs k).length = k := by simp [TS.outs]
            repeat (first | (with_reducible first | refine jn_go ?_ | refine ud_go ?_ | refine tr_go ?_ | (refine Hd.go ?_; intro K Q hK hQ; simp only [nod_tup, List.map_cons, nod2_agg, nodL_imm, List.map_nil, nod2_imm, e_x20, e_x21, nod_agg, e_bxI, okE_agg, lv_cons, List.length_nil, Nat.zero_add, Nat.reduceAdd, all_c, ck_I, all_n, Bool.and_self, and_true, true_and, nod_imm, Try.underlying27, e_neq, decide_true, Bool.not_true, List.getD_cons_zero, List.getD_cons_succ, e_cond, Bool.false_eq_true, if_false, nod_cptr, e_ldcA, bs1F, nod_arr, nd_full, app1N, oF_ap, Try.underlying3, e_add]; subst hK hQ) | refine rn_go ?_ | refine rv_go ?_ | refine jv_go ?_) | refine sd ?_)
            refine ⟨(k + 1, G4, w4), ⟨by show k + 1 ≤ s.toNat; omega, v1.frame f4 p1', x2, hG3.step f4 hHb'⟩, ?_, rfl, by show s.toNat - (k + 1) < s.toNat - k; omega⟩
            show [I s, .ptr b 0, .ptr b' 0, .arr ((S.outs s.toNat).map fdV) f, I 0, .arr ((S.outs (k + 1)).map fdV) (oF (k + 1)), I ((k + 1 : Nat) : Int)] = _
            rw [TS.outs_succ]; rfl
          · have d : ¬ (k : Int) < s := by omega
            have ek : k = s.toNat := by omega
            subst ek
            have eL : (S.stepN s.toNat).en ≤ 4000000000000000000 := Int.le_trans in1.en (by decide)
            have okN := in1.ok (show (30000 : Int) ≤ 10000000000 by decide)
            have nfo : (oF s.toNat).nd.nd.nd = (oF s.toNat).nd.nd := by cases s.toNat <;> rfl
            repeat (first | (with_reducible first | refine jn_go ?_ | refine ud_go ?_ | refine tr_go ?_ | (refine Hd.go ?_; intro K Q hK hQ; simp only [d, if_false, List.getD_cons_succ, List.getD_cons_zero, nod_imm, Try.underlying27, e_neq, decide_true, Bool.not_true, nod_arr, hfd, e_gF, cond_false]; subst hK hQ) | refine rn_go ?_ | refine rv_go ?_ | refine jv_go ?_) | refine sd ?_)
            refine call_of (c42 _ _ f _ _ (by omega) hfd nfo) ?_
            repeat (first | (with_reducible first | refine jn_go ?_ | refine ud_go ?_ | refine tr_go ?_ | (refine Hd.go ?_; intro K Q hK hQ; simp only [decide_true, nod_imm, e_not, Bool.not_true, List.getD_cons_succ, List.getD_cons_zero, nod_ptr, Try.underlying3, e_gF, cond_false]; subst hK hQ) | refine rn_go ?_ | refine rv_go ?_ | refine jv_go ?_) | refine sd ?_)
            refine call_of (c27 b bA bD w1' _ _ v1 okN eL) ?_
            repeat (first | (with_reducible first | refine jn_go ?_ | refine ud_go ?_ | refine tr_go ?_ | (refine Hd.go ?_; intro K Q hK hQ; simp only [Try.underlying3, Try.underlying4, Try.underlying22, Try.underlying27, Try.underlying123, Try.underlying91, Try.underlying41, Try.underlying107, j_one, j_side, j_tl, j_fl, nod_nod, nod_imm, nod_ints, nd_no, nd_own, nd_full, nd_fO, oF_ap, oF_succ, nod_sl, nod_ptr, nod_cptr, nod_fn, nod_junk, nodL_imm, nod_agg, nod_tup, nod2_imm, nod2_agg, cl_imm, cl_ints, cl_agg, e_add, e_sub, e_mul, e_quo, e_rem, e_eql, e_neq, e_lss, e_leq, e_gtr, e_geq, e_beq, e_bne, e_neg, e_not, e_pick, e_cond, e_gT, e_gF, e_len, e_lenA, e_lenS, e_ix, e_ixS, e_ldc, e_ldci, e_fa, rep_cl, rep_I, e_bx, okE_I, okE_B, okE_E8, okE_ints, stV_imm, stV_ints, j_and', j_or', List.getD_cons_zero, List.getD_cons_succ, List.map_cons, List.map_nil, decide_eq_true_eq, Int.toNat_natCast, Nat.mul_one, Nat.zero_add, true_and, and_true, List.length_map, Bool.not_eq_true', decide_eq_false_iff_not, nod_lists, e_lenL, e_ixL, okE_lists, bs1, bs1L, bs2L, e_app, e_appL, e_app0, e_app0L, e_slcLo, e_slcHi, e_slcLH, e_slcHH, e_slcLHH, e_callG, e_callY, e_calmG, e_slS0, e_slSLo, e_slSHi, e_slSLH, e_slSHH, e_slSLHH, e_max2, e_min2, e_max3, e_x20, e_x21, e_x30, e_x31, e_x32, nod2_ints, nod2_lists, rep_fl, bs0, e_nilE, if_true, if_false, cond_true, cond_false, decide_true, decide_false, eq_self, Bool.false_eq_true, false_implies, true_implies, ap_own, ap_full, e_slcLoL, e_slcHiL, e_slcLHL, hp_assoc, hp_cons, hp_nil, hp_len, hp_len_cons, hp_len_nil, lv_cons, lv_nil, vs_0, vs_s, spl_s, spl_0, spl_n, dr_s, dr_0, tk_s, tk_0, e_bxI, e_fac, e_facA, e_ldcA, e_ldcL, e_ldcF, okE_agg, ck_I, ck_B, ck_ints, ck_lists, ck_arr, ck_ptr, ck_cptr, ck_fn, all_c, all_n, stV_agg, stV_lists, stV_arr, stV_ptr, stV_cptr, stV_fn, nodL_ints, nodL_lists, nodL_ptr, nodL_cptr, nodL_fn, nodL_arr0, cl_arr, cl_ptr, cl_cptr, cl_fn, cl_lists, okE_arr, okE_fn, okE_ptr, okE_cptr, e_bd0, e_bd1, Nat.reduceAdd, Nat.reduceLeDiff, Nat.reduceEqDiff, Nat.add_zero, Bool.and_self, Bool.true_and, Bool.and_true, e_lc0, e_lA0, e_lM0, e_sc0, e_rc0, e_rA0, e_lI0, e_sI0, e_cI0, e_lc1, e_lA1, e_lM1, e_sc1, e_rc1, e_rA1, e_lI1, e_sI1, e_cI1, e_lc2, e_lA2, e_lM2, e_sc2, e_rc2, e_rA2, e_lI2, e_sI2, e_cI2, e_lc3, e_lA3, e_lM3, e_sc3, e_rc3, e_rA3, e_lI3, e_sI3, e_cI3, e_lc4, e_lA4, e_lM4, e_sc4, e_rc4, e_rA4, e_lI4, e_sI4, e_cI4, e_lc5, e_lA5, e_lM5, e_sc5, e_rc5, e_rA5, e_lI5, e_sI5, e_cI5, own0_arr, own0_ints, own0_lists, own0_imm, own0_ptr, own0_cptr, own0_fn, own0_agg, e_appB, e_appB0, ck_sl, own0_sl, stV_sl, nodL_sl, cl_sl, okE_sl, e_mkM, e_mkI, e_mkIm, e_callB, nod_bfn, nod_ifc, nod_map, nodL_ifc, nodL_bfn, nodL_map, cl_ifc, cl_bfn, ck_ifc, ck_bfn, ck_map, stV_ifc, okE_ifc, okE_bfn, nod_arr, nodL_arr, e_addU, e_mulU, e_shrK, e_shlK, e_andK, e_cv64, e_cv32, e_callEG, e_callEY, e_callEB, e_zr, e_nilSl, e_ncP, e_ncC, e_npnP, e_npeP, e_npnC, e_npeC, e_npnN, e_npeN, e_ixAP, e_ldcP, e_ldcS, e_ldcV, e_ldcT, okE_nilP, ck_nilP, okE_nilI, ck_nilI, okE_str, ck_str, reduceIte, Int.reduceEq, Int.reduceNeg, ne_eq, not_true_eq_false, not_false_eq_true, Bool.not_true, Bool.not_false, Bool.true_or, Bool.or_true, Bool.false_or, Bool.or_false, Bool.and_true, Bool.and_false, Bool.false_and, Bool.not_not, Bool.or_self, List.length_nil, Int.ofNat_zero, Int.cast_ofNat_Int, Int.natCast_zero, beq_self_eq_true, Bool.true_eq_false]; subst hK hQ) | refine rn_go ?_ | refine rv_go ?_ | refine jv_go ?_) | refine sd ?_)
            refine call_of (c27 b' bA' bD' w3 _ _ v2 okN eL) ?_
            repeat (first | (with_reducible first | refine jn_go ?_ | refine ud_go ?_ | refine tr_go ?_ | (refine Hd.go ?_; intro K Q hK hQ; simp only [nod_imm, e_neq, decide_true, Bool.not_true, List.getD_cons_succ, List.getD_cons_zero, nod_ptr, Try.underlying3, e_gF, cond_false]; subst hK hQ) | refine rn_go ?_ | refine rv_go ?_ | refine jv_go ?_) | refine sd ?_)
            refine call_of (c41 b bA bD w1' _ _ v1 okN) ?_
            repeat (first | (with_reducible first | refine jn_go ?_ | refine ud_go ?_ | refine tr_go ?_ | (refine Hd.go ?_; intro K Q hK hQ; simp only [Try.underlying3, Try.underlying4, Try.underlying22, Try.underlying27, Try.underlying123, Try.underlying91, Try.underlying41, Try.underlying107, j_one, j_side, j_tl, j_fl, nod_nod, nod_imm, nod_ints, nd_no, nd_own, nd_full, nd_fO, oF_ap, oF_succ, nod_sl, nod_ptr, nod_cptr, nod_fn, nod_junk, nodL_imm, nod_agg, nod_tup, nod2_imm, nod2_agg, cl_imm, cl_ints, cl_agg, e_add, e_sub, e_mul, e_quo, e_rem, e_eql, e_neq, e_lss, e_leq, e_gtr, e_geq, e_beq, e_bne, e_neg, e_not, e_pick, e_cond, e_gT, e_gF, e_len, e_lenA, e_lenS, e_ix, e_ixS, e_ldc, e_ldci, e_fa, rep_cl, rep_I, e_bx, okE_I, okE_B, okE_E8, okE_ints, stV_imm, stV_ints, j_and', j_or', List.getD_cons_zero, List.getD_cons_succ, List.map_cons, List.map_nil, decide_eq_true_eq, Int.toNat_natCast, Nat.mul_one, Nat.zero_add, true_and, and_true, List.length_map, Bool.not_eq_true', decide_eq_false_iff_not, nod_lists, e_lenL, e_ixL, okE_lists, bs1, bs1L, bs2L, e_app, e_appL, e_app0, e_app0L, e_slcLo, e_slcHi, e_slcLH, e_slcHH, e_slcLHH, e_callG, e_callY, e_calmG, e_slS0, e_slSLo, e_slSHi, e_slSLH, e_slSHH, e_slSLHH, e_max2, e_min2, e_max3, e_x20, e_x21, e_x30, e_x31, e_x32, nod2_ints, nod2_lists, rep_fl, bs0, e_nilE, if_true, if_false, cond_true, cond_false, decide_true, decide_false, eq_self, Bool.false_eq_true, false_implies, true_implies, ap_own, ap_full, e_slcLoL, e_slcHiL, e_slcLHL, hp_assoc, hp_cons, hp_nil, hp_len, hp_len_cons, hp_len_nil, lv_cons, lv_nil, vs_0, vs_s, spl_s, spl_0, spl_n, dr_s, dr_0, tk_s, tk_0, e_bxI, e_fac, e_facA, e_ldcA, e_ldcL, e_ldcF, okE_agg, ck_I, ck_B, ck_ints, ck_lists, ck_arr, ck_ptr, ck_cptr, ck_fn, all_c, all_n, stV_agg, stV_lists, stV_arr, stV_ptr, stV_cptr, stV_fn, nodL_ints, nodL_lists, nodL_ptr, nodL_cptr, nodL_fn, nodL_arr0, cl_arr, cl_ptr, cl_cptr, cl_fn, cl_lists, okE_arr, okE_fn, okE_ptr, okE_cptr, e_bd0, e_bd1, Nat.reduceAdd, Nat.reduceLeDiff, Nat.reduceEqDiff, Nat.add_zero, Bool.and_self, Bool.true_and, Bool.and_true, e_lc0, e_lA0, e_lM0, e_sc0, e_rc0, e_rA0, e_lI0, e_sI0, e_cI0, e_lc1, e_lA1, e_lM1, e_sc1, e_rc1, e_rA1, e_lI1, e_sI1, e_cI1, e_lc2, e_lA2, e_lM2, e_sc2, e_rc2, e_rA2, e_lI2, e_sI2, e_cI2, e_lc3, e_lA3, e_lM3, e_sc3, e_rc3, e_rA3, e_lI3, e_sI3, e_cI3, e_lc4, e_lA4, e_lM4, e_sc4, e_rc4, e_rA4, e_lI4, e_sI4, e_cI4, e_lc5, e_lA5, e_lM5, e_sc5, e_rc5, e_rA5, e_lI5, e_sI5, e_cI5, own0_arr, own0_ints, own0_lists, own0_imm, own0_ptr, own0_cptr, own0_fn, own0_agg, e_appB, e_appB0, ck_sl, own0_sl, stV_sl, nodL_sl, cl_sl, okE_sl, e_mkM, e_mkI, e_mkIm, e_callB, nod_bfn, nod_ifc, nod_map, nodL_ifc, nodL_bfn, nodL_map, cl_ifc, cl_bfn, ck_ifc, ck_bfn, ck_map, stV_ifc, okE_ifc, okE_bfn, nod_arr, nodL_arr, e_addU, e_mulU, e_shrK, e_shlK, e_andK, e_cv64, e_cv32, e_callEG, e_callEY, e_callEB, e_zr, e_nilSl, e_ncP, e_ncC, e_npnP, e_npeP, e_npnC, e_npeC, e_npnN, e_npeN, e_ixAP, e_ldcP, e_ldcS, e_ldcV, e_ldcT, okE_nilP, ck_nilP, okE_nilI, ck_nilI, okE_str, ck_str, reduceIte, Int.reduceEq, Int.reduceNeg, ne_eq, not_true_eq_false, not_false_eq_true, Bool.not_true, Bool.not_false, Bool.true_or, Bool.or_true, Bool.false_or, Bool.or_false, Bool.and_true, Bool.and_false, Bool.false_and, Bool.not_not, Bool.or_self, List.length_nil, Int.ofNat_zero, Int.cast_ofNat_Int, Int.natCast_zero, beq_self_eq_true, Bool.true_eq_false]; subst hK hQ) | refine rn_go ?_ | refine rv_go ?_ | refine jv_go ?_) | refine sd ?_)
            refine call_of (c41 b' bA' bD' w3 _ _ v2 okN) ?_
            repeat (first | (with_reducible first | refine jn_go ?_ | refine ud_go ?_ | refine tr_go ?_ | (refine Hd.go ?_; intro K Q hK hQ; simp only [nod_imm, e_neq, decide_true, Bool.not_true, List.getD_cons_succ, List.getD_cons_zero, e_cond, Bool.false_eq_true, if_false, nod_ptr]; subst hK hQ) | refine rn_go ?_ | refine rv_go ?_ | refine jv_go ?_) | refine sd ?_)
            refine call_of (c41 b bA bD w1' _ _ v1 okN) ?_
            by_cases hz : (S.stepN s.toNat).st = 0
            · repeat (first | (with_reducible first | refine jn_go ?_ | refine ud_go ?_ | refine tr_go ?_ | (refine Hd.go ?_; intro K Q hK hQ; simp only [hz, nod_imm, Try.underlying3, e_eql, decide_true, e_cond, if_true]; subst hK hQ) | refine rn_go ?_ | refine rv_go ?_ | refine jv_go ?_) | refine sd ?_)
              refine call_of (c17 _) ?_
              with_reducible first | refine rv_go ?_ | refine rn_go ?_ | skip
              exact end1F hG3
            · repeat (first | (with_reducible first | refine jn_go ?_ | refine ud_go ?_ | refine tr_go ?_ | (refine Hd.go ?_; intro K Q hK hQ; simp only [nod_imm, Try.underlying3, e_eql, hz, decide_false, e_cond, Bool.false_eq_true, if_false, List.getD_cons_zero, nod_ptr]; subst hK hQ) | refine rn_go ?_ | refine rv_go ?_ | refine jv_go ?_) | refine sd ?_)
              refine call_of (c41 b bA bD w1' _ _ v1 okN) ?_
              repeat (first | (with_reducible first | refine jn_go ?_ | refine ud_go ?_ | refine tr_go ?_ | (refine Hd.go ?_; intro K Q hK hQ; simp only [List.getD_cons_zero, nod_ptr]; subst hK hQ) | refine rn_go ?_ | refine rv_go ?_ | refine jv_go ?_) | refine sd ?_)
              refine callE_of (c39 b bA bD w1' _ 100000 _ v1 (fun _ _ _ k _ => (in1.stepN (by decide) k).ok (by decide)) okN (by omega) (by omega)) ?_
              intro v G5 hq
              rw [if_neg (by decide), if_pos (by omega)] at hq
              obtain ⟨rfl, rfl⟩ := hq
              repeat (first | (with_reducible first | refine jn_go ?_ | refine ud_go ?_ | refine tr_go ?_ | (refine Hd.go ?_; intro K Q hK hQ; simp only [nod_tup, List.map_cons, nod2_imm, List.map_nil, e_x20, e_x21, List.getD_cons_zero, List.getD_cons_succ, nod_imm, Try.underlying27, e_eql, decide_true, nod_ptr, Try.underlying3, e_gT, cond_true]; subst hK hQ) | refine rn_go ?_ | refine rv_go ?_ | refine jv_go ?_) | refine sd ?_)
              refine call_of (c41 b bA bD w1' _ _ v1 okN) ?_
              repeat (first | (with_reducible first | refine jn_go ?_ | refine ud_go ?_ | refine tr_go ?_ | (refine Hd.go ?_; intro K Q hK hQ; simp only [nod_imm, e_eql, decide_true, e_gT, cond_true]; subst hK hQ) | refine rn_go ?_ | refine rv_go ?_ | refine jv_go ?_) | refine sd ?_)
              refine call_of (c17 _) ?_
              with_reducible first | refine rv_go ?_ | refine rn_go ?_ | skip
              exact end1F hG3
    · rw [decide_eq_false hS]
      repeat (first | (with_reducible first | refine jn_go ?_ | refine ud_go ?_ | refine tr_go ?_ | (refine Hd.go ?_; intro K Q hK hQ; simp only [nod_imm, e_not, Bool.not_false, Try.underlying3, nod_nod, e_leq, e_gtr, e_gT, j_and', true_and, e_gF, cond_true, j_one, List.getD_cons_succ, List.getD_cons_zero, e_cond, if_true]; subst hK hQ) | refine rn_go ?_ | refine rv_go ?_ | refine jv_go ?_) | refine sd ?_)
      refine call_of (c17 _) ?_
      with_reducible first | refine rv_go ?_ | refine rn_go ?_ | skip
      first | exact end1 (fzI _) | exact end1A (fzI _)
  · rw [Bool.eq_false_iff.2 hf]
    repeat (first | (with_reducible first | refine jn_go ?_ | refine ud_go ?_ | refine tr_go ?_ | (refine Hd.go ?_; intro K Q hK hQ; simp only [Bool.not_false, cond_true, nod_imm, Try.underlying3, nod_nod, e_leq, e_gtr, e_gT, j_and', true_and, e_gF, j_one, List.getD_cons_succ, List.getD_cons_zero, e_cond, if_true]; subst hK hQ) | refine rn_go ?_ | refine rv_go ?_ | refine jv_go ?_) | refine sd ?_)
    refine call_of (c17 _) ?_
    with_reducible first | refine rv_go ?_ | refine rn_go ?_ | skip
    first | exact end1 (fzI _) | exact end1A (fzI _)
end Go.Proofs.Ytpielcbpfbajlaa


set_option linter.unusedVariables false
set_option linter.unusedSimpArgs false
set_option linter.unnecessarySimpa false
set_option maxRecDepth 20000
set_option maxHeartbeats 2000000
namespace Go.Proofs.Ytpielcbpfbajlaa
open Go Go.Ab Go.Proofs
attribute [local congr] g_bin g_nilS g_nilP g_un g_ext g_bx g_fa g_ld g_st g_ix g_ixA g_slc g_mk g_bs g_bd g_nc g_cv g_len g_lenT g_app g_appB g_cpy g_mm g_call g_callG g_calm g_calmG g_range g_res g_pick g_cond g_loop g_Jv g_eqS g_eqP g_fd g_ixT g_ta g_lkp g_upd g_mkM g_appS g_inv g_callE g_callEG g_invE g_zr
open Go.ChangeShapes Go.WideShapes Go.ChangeAt Go.RowKit
theorem own : ownKnob Try.prog.godebug = none := by kernel_rfl
theorem laidOut : laidOutB Try.prog = true := by kernel_rfl
set_option maxRecDepth 100000 in
theorem lifted (os : Os) (started : os.Started) (H : Type) (enc : TypeId × Value → H) :
    ReturnsInHanded {} Try.checked os 11 .any (Rows.tractQuietSpec.pre6 enc Try.prog Try.f11 Rows.tractQuietRow.domain false) (Rows.tractQuietSpec.post enc Try.prog Try.f11 false true false false) := by
  refine returnsInHanded_of_change (C := Try.checked) own started (by kernel_rfl) Try.func11
    (ChangeSpec.witness6 (enc := enc) (C := Try.checked) false ⟨#[], #[.agg #[.slice none 0 0, .slice none 0 0, .int .i64 0, .int .i64 0, .int .i64 0, .int .i64 0, .slice none 0 0, .slice none 0 0, .slice none 0 0], .int .i64 0], []⟩ 8 (by kernel_rfl) (by kernel_rfl) (by kernel_rfl) (by kernel_rfl)) ?_
  intro W base args ds gs before hval0 hW hcnd _
  have hval : ∀ (j : Nat) t v, Try.f11.params[j]? = some t → args[j]? = some v → Value.okWide Try.prog W .any base t v := hval0
  have hW' := hW
  obtain ⟨p, q, hA0, hV, rfl, hfz, hnd⟩ := hW
  have hA : DataW.TrodAll enc Try.prog W 0 (fun _ => true) true Try.f11.params.toList args.toList ds p := hA0
  rw [Try.params11] at hA hval
  obtain ⟨v0, vs0, d0, ds0, p0, q0, hargs, rfl, rfl, h0, r0⟩ := trodAll_cons hA
  obtain ⟨v1, vs1, d1, ds1, p1, q1, rfl, rfl, rfl, h1, r1⟩ := trodAll_cons r0
  obtain ⟨rfl, rfl, rfl⟩ := trodAll_nil r1
  obtain rfl : args = #[v0, v1] := by cases args; simp_all
  obtain ⟨rfl, rfl⟩ := trodVars_none hV
  have lt0 : ∀ x ∈ p0, x.block < W.heap.size := by obtain ⟨m, hm⟩ := h0; exact DataW.trod_lt m _ _ _ hm
  obtain ⟨x0, y0, e0⟩ := in_play (hval 0 _ v0 rfl rfl) h0
  have lt1 : ∀ x ∈ p1, x.block < W.heap.size := by obtain ⟨m, hm⟩ := h1; exact DataW.trod_lt m _ _ _ hm
  obtain ⟨n1, e1, w1⟩ := in_int Try.underlying3 (hval 1 _ v1 rfl rfl) h1
  clear hA0 hval0
  refine (bridge (args := [.agg (playL x0), I n1]) (ra := #[v0, v1]) (c11 x0.1.1 x0.1.2.1 x0.1.2.2.1 x0.1.2.2.2.1 x0.1.2.2.2.2.1 x0.1.2.2.2.2.2 x0.2.1 x0.2.2.1 x0.2.2.2 n1  []) rfl (by intro a ha; simp at ha; rcases ha with rfl | rfl <;> rfl) (fun i => ?_)).mono fun e W' ⟨he, bel⟩ => ?_
  · match i with
    | 0 => exact e0
    | 1 => exact e1
    | i + 2 => exact .junk _
  · subst he
    exact ⟨_, rfl, _, _, _, [], _, [], hW', trodAll_mk1 (shut_bool Try.underlying4 _), (trodAll_cons_mk (Below.trod laidOut (by kernel_rfl) (of_decide_eq_true (by kernel_rfl)) h0 bel lt0) (trodAll_cons_mk (Below.trod laidOut (by kernel_rfl) (of_decide_eq_true (by kernel_rfl)) h1 bel lt1) trodAll_mk0)), rfl, bel.frame _, fun h => by cases h⟩
theorem over : Rows.tractQuietRow.holds Try.pinned (OpenSpec.ofChange Rows.tractQuietSpec) :=
  OpenClaim.holds_of_wide 11 Try.f11 rfl rfl rfl rfl rfl rfl rfl ⟨rfl, rfl, rfl, rfl, rfl⟩ rfl rfl rfl rfl rfl (by kernel_rfl) Try.func11 (by kernel_rfl)
    (of_decide_eq_true (by kernel_rfl)) (by unfold Func.isWrapper; first | (rw [if_pos (by decide +kernel)]; kernel_rfl) | (rw [if_neg (by decide +kernel)]; exact ⟨rfl, rfl⟩))
    (fun os started H enc _ => lifted os started H enc)
theorem tractQuiet_holds : Rows.TractQuietSaid := over
#print axioms tractQuiet_holds
end Go.Proofs.Ytpielcbpfbajlaa

