/- NumeralReads: which numbers have some words, and what is refused; a number that has words is among what is read for them; no condition. -/
import Derived.Test.YtgodfjbmblghnaaR6
import Derived.Test.YtgodfjbmblghnaaProg
import Derived.Test.YtgodfjbmblghnaaRows
set_option linter.unusedVariables false
set_option maxRecDepth 20000
set_option maxHeartbeats 4000000
namespace Go.Proofs.Ytgodfjbmblghnaa
open Go Go.Ab Go.Proofs
def an6 : An := { imm := [4, 5], jn := [(2, [2, 3, 4, 5, 38]), (5, [2, 3, 4, 5, 9]), (9, [2, 3, 4, 5, 10, 11]), (12, [2, 3, 4, 5, 10, 11]), (15, [3, 4, 5, 89]), (17, [3, 4, 5, 97]), (18, [3, 4, 5]), (19, [3, 4, 5, 105]), (23, [3, 4, 5, 15, 16]), (26, [3, 17, 18]), (29, [3, 17, 18, 19, 20])], lp := [(4, [2, 3, 4, 5, 9]), (28, [3, 17, 18, 19, 20])], loud := [], ord := [] }
def vc6 (C : Cb) (a0 a1 a2 a3 : V) (H : Hp) (R : List V → Hp → Prop) : Prop :=
 C.aBx true 7 a0.nod H fun v1 H2 =>
 C.aBx true 4 a1.nod H2 fun v3 H4 =>
 Jn (fun l5 H6 =>
 aCond (l5.getD 4 .junk).nod (
 C.callE 15 [] H6 fun v8 H9 =>
 R [v8] H9) (
 LoopA (fun l10 H11 K12 =>
 C.aLen (l10.getD 0 .junk).nod.nod fun v13 =>
 C.aBin (Try.prog.underlying 3) .lss (l10.getD 4 .junk).nod.nod v13.nod fun v14 =>
 aCond v14.nod (
 Jn (fun l15 H16 =>
 C.aBin (Try.prog.underlying 3) .add (l15.getD 4 .junk).nod.nod (I 1) fun v18 =>
 K12 [(l15.getD 0 .junk), (l15.getD 1 .junk), (l15.getD 2 .junk), (l15.getD 3 .junk), v18] H16)
 (fun R17 =>
 C.aIx 1 (l10.getD 0 .junk).nod.nod (l10.getD 4 .junk).nod.nod fun v19 =>
 C.aLd 1 false false v19.nod H11 fun v20 H21 =>
 C.aLenT v20.nod fun v22 =>
 C.aBin (Try.prog.underlying 3) .gtr v22.nod (I 60) fun v23 =>
 aCond v23.nod (
 C.callE 15 [] H21 fun v24 H25 =>
 R [v24] H25) (
 R17 [(l10.getD 0 .junk), (l10.getD 1 .junk), (l10.getD 2 .junk), (l10.getD 3 .junk), (l10.getD 4 .junk)] H21))) (
 Jn (fun l26 H27 =>
 Jn (fun l29 H30 =>
 C.aLd 7 true false (l29.getD 2 .junk).nod H30 fun v32 H33 =>
 C.aLd 4 true false (l29.getD 3 .junk).nod H33 fun v34 H35 =>
 C.callE 28 [v32.nod, v34.nod, (l29.getD 0 .junk).nod.nod] H35 fun v36 H37 =>
 Jn (fun l38 H39 =>
 Jn (fun l41 H42 =>
 aCond (l41.getD 3 .junk).nod (
 C.callE 15 [] H42 fun v44 H45 =>
 R [v44] H45) (
 C.aLd 4 true false (l41.getD 2 .junk).nod H42 fun v46 H47 =>
 C.aBx false 4 (V.agg [(I 0), (I 0), (I 0), (I 0)]) H47 fun v48 H49 =>
 C.aSt 4 v48.nod v46 H49 fun v50 H51 =>
 C.aFA 0 1 false v48.nod fun v52 =>
 C.aSt 1 v52.nod (l41.getD 0 .junk).nod H51 fun v53 H54 =>
 Jn (fun l55 H56 =>
 C.aBin (Try.prog.underlying 29) .neq (l55.getD 4 .junk).nod.nod (I 0) fun v58 =>
 aCond v58.nod (
 C.aBin (Try.prog.underlying 29) .eql (l55.getD 4 .junk).nod.nod (I 5) fun v59 =>
 Jv (fun v60 H61 =>
 R [v60] H61)
 (fun R62 =>
 aG v59.nod true (
 C.callE 15 [] H56 fun v63 H64 =>
 R62 v63.nod H64) (
 R62 (B false) H56))) (
 Jn (fun l65 H66 =>
 LoopA (fun l68 H69 K70 =>
 C.aLen (l68.getD 1 .junk).nod.nod fun v71 =>
 C.aBin (Try.prog.underlying 3) .lss (l68.getD 4 .junk).nod.nod v71.nod fun v72 =>
 aCond v72.nod (
 Jn (fun l73 H74 =>
 C.aBin (Try.prog.underlying 3) .add (l73.getD 4 .junk).nod.nod (I 1) fun v76 =>
 K70 [(l73.getD 0 .junk), (l73.getD 1 .junk), (l73.getD 2 .junk), (l73.getD 3 .junk), v76] H74)
 (fun R75 =>
 Jv (fun v77 H78 =>
 R75 [(l68.getD 0 .junk), (l68.getD 1 .junk), (l68.getD 2 .junk), v77, (l68.getD 4 .junk)] H78)
 (fun R79 =>
 aG (l68.getD 3 .junk).nod.nod false (
 C.aIx 1 (l68.getD 1 .junk).nod.nod (l68.getD 4 .junk).nod.nod fun v80 =>
 C.aLd 1 false false v80.nod H69 fun v81 H82 =>
 C.aBin (Try.prog.underlying 3) .eql v81.nod (l68.getD 0 .junk).nod.nod fun v83 =>
 R79 v83.nod H82) (
 R79 (B true) H69)))) (
 C.aBin (Try.prog.underlying 29) .eql (l68.getD 2 .junk).nod.nod (I 0) fun v84 =>
 Jv (fun v85 H86 =>
 Jv (fun v88 H89 =>
 R [v88] H89)
 (fun R90 =>
 aG v85.nod true (
 C.callE 15 [] H86 fun v91 H92 =>
 R90 v91.nod H92) (
 R90 (B false) H86)))
 (fun R87 =>
 aG v84.nod true (
 R87 (l68.getD 3 .junk).nod.nod H69) (
 R87 (B false) H69))))
 [(l65.getD 0 .junk), (l65.getD 1 .junk), (l65.getD 2 .junk), (B false), (I 0)] H66)
 (fun R67 =>
 C.aLd 7 true false (l55.getD 1 .junk).nod H56 fun v93 H94 =>
 C.aLd 4 true false (l55.getD 2 .junk).nod H94 fun v95 H96 =>
 C.callE 27 [v93.nod, v95.nod, (l55.getD 3 .junk).nod.nod] H96 fun v97 H98 =>
 C.aExt 0 v97.nod.nod fun v99 =>
 C.aExt 1 v97.nod.nod fun v100 =>
 R67 [(l55.getD 0 .junk), v99, v100] H98)))
 (fun R57 =>
 C.aLd 7 true false (l41.getD 1 .junk).nod H54 fun v101 H102 =>
 C.aLd 4 true false v48.nod H102 fun v103 H104 =>
 C.callE 20 [v101.nod, v103.nod] H104 fun v105 H106 =>
 C.aExt 0 v105.nod.nod fun v107 =>
 C.aExt 1 v105.nod.nod fun v108 =>
 R57 [(l41.getD 0 .junk), (l41.getD 1 .junk), (l41.getD 2 .junk), v107, v108] H106)))
 (fun R43 =>
 C.aBin (Try.prog.underlying 3) .lss (l38.getD 0 .junk).nod.nod (I 0) fun v109 =>
 Jv (fun v110 H111 =>
 R43 [(l38.getD 0 .junk), (l38.getD 1 .junk), (l38.getD 2 .junk), v110] H111)
 (fun R112 =>
 aG v109.nod false (
 C.aFA 0 1 false (l38.getD 2 .junk).nod fun v113 =>
 C.aLd 1 false false v113.nod H39 fun v114 H115 =>
 C.aBin (Try.prog.underlying 3) .gtr (l38.getD 0 .junk).nod.nod v114.nod fun v116 =>
 R112 v116.nod H115) (
 R112 (B true) H39))))
 (fun R40 =>
 C.aLen v36.nod.nod fun v117 =>
 C.aBin (Try.prog.underlying 3) .eql v117.nod (I 0) fun v118 =>
 aCond v118.nod (
 Jn (fun l119 H120 =>
 aCond (l119.getD 3 .junk).nod (
 R [(B false)] H120) (
 R40 [(l119.getD 0 .junk), (l119.getD 1 .junk), (l119.getD 2 .junk)] H120))
 (fun R121 =>
 C.aBin (Try.prog.underlying 29) .neq (l29.getD 5 .junk).nod.nod (I 5) fun v122 =>
 Jv (fun v123 H124 =>
 R121 [(l29.getD 1 .junk), (l29.getD 2 .junk), (l29.getD 3 .junk), v123] H124)
 (fun R125 =>
 aG v122.nod false (
 C.aLen (l29.getD 4 .junk).nod.nod fun v126 =>
 C.aBin (Try.prog.underlying 3) .neq v126.nod (I 0) fun v127 =>
 R125 v127.nod H37) (
 R125 (B true) H37)))) (
 Jn (fun l128 H129 =>
 aCond (l128.getD 3 .junk).nod (
 R [(B false)] H129) (
 R40 [(l128.getD 0 .junk), (l128.getD 1 .junk), (l128.getD 2 .junk)] H129))
 (fun R130 =>
 C.aBin (Try.prog.underlying 29) .neq (l29.getD 5 .junk).nod.nod (I 0) fun v131 =>
 Jv (fun v132 H133 =>
 R130 [(l29.getD 1 .junk), (l29.getD 2 .junk), (l29.getD 3 .junk), v132] H133)
 (fun R134 =>
 aG v131.nod false (
 C.callE 29 [(l29.getD 4 .junk).nod.nod, v36.nod.nod] H37 fun v135 H136 =>
 C.aUn .not v135.nod fun v137 =>
 R134 v137.nod H136) (
 R134 (B true) H37))))))
 (fun R31 =>
 C.aLd 7 true false (l26.getD 2 .junk).nod H27 fun v138 H139 =>
 C.aLd 4 true false (l26.getD 3 .junk).nod H139 fun v140 H141 =>
 C.callE 22 [v138.nod, v140.nod, (B true)] H141 fun v142 H143 =>
 C.aBin (Try.prog.underlying 29) .neq v142.nod.nod (I 0) fun v144 =>
 aCond v144.nod (
 C.aBin (Try.prog.underlying 29) .eql (l26.getD 5 .junk).nod.nod v142.nod.nod fun v145 =>
 Jv (fun v146 H147 =>
 Jv (fun v151 H152 =>
 R [v151] H152)
 (fun R153 =>
 aG v146.nod true (
 C.callE 15 [] H147 fun v154 H155 =>
 R153 v154.nod H155) (
 R153 (B false) H147)))
 (fun R148 =>
 aG v145.nod true (
 C.aLen (l26.getD 4 .junk).nod.nod fun v149 =>
 C.aBin (Try.prog.underlying 3) .eql v149.nod (I 0) fun v150 =>
 R148 v150.nod H143) (
 R148 (B false) H143))) (
 R31 [(l26.getD 0 .junk), (l26.getD 1 .junk), (l26.getD 2 .junk), (l26.getD 3 .junk), (l26.getD 4 .junk), (l26.getD 5 .junk)] H143)))
 (fun R28 =>
 C.aLd 7 true false (l10.getD 2 .junk).nod H11 fun v156 H157 =>
 C.aLd 4 true false (l10.getD 3 .junk).nod H157 fun v158 H159 =>
 C.callE 27 [v156.nod, v158.nod, (l10.getD 0 .junk).nod.nod] H159 fun v160 H161 =>
 C.aExt 0 v160.nod.nod fun v162 =>
 C.aExt 1 v160.nod.nod fun v163 =>
 R28 [(l10.getD 0 .junk), (l10.getD 1 .junk), (l10.getD 2 .junk), (l10.getD 3 .junk), v162, v163] H161)))
 [(l5.getD 0 .junk), (l5.getD 1 .junk), (l5.getD 2 .junk), (l5.getD 3 .junk), (I 0)] H6))
 (fun R7 =>
 C.aLd 7 true false v1.nod H4 fun v164 H165 =>
 C.callE 14 [v164.nod] H165 fun v166 H167 =>
 C.aUn .not v166.nod fun v168 =>
 Jv (fun v169 H170 =>
 Jv (fun v180 H181 =>
 R7 [a2, a3, v1, v3, v180] H181)
 (fun R182 =>
 aG v169.nod false (
 C.aLen a2.nod.nod fun v183 =>
 C.aBin (Try.prog.underlying 3) .gtr v183.nod (I 60) fun v184 =>
 R182 v184.nod H170) (
 R182 (B true) H170)))
 (fun R171 =>
 aG v168.nod false (
 C.aFA 0 1 false v3.nod fun v172 =>
 C.aLd 1 false false v172.nod H167 fun v173 H174 =>
 C.aBin (Try.prog.underlying 3) .gtr v173.nod (I 300) fun v175 =>
 aG v175.nod true (
 C.aFA 0 1 false v3.nod fun v176 =>
 C.aLd 1 false false v176.nod H174 fun v177 H178 =>
 C.aBin (Try.prog.underlying 3) .leq v177.nod (I 20000) fun v179 =>
 R171 v179.nod.nod H178) (
 R171 (B false) H174)) (
 UD = UD ∧
 UD = UD ∧
 UD = UD ∧
 R171 (B true) H167)))
theorem wf6 : (Nat.ble 4 Try.f6.ntmps && wfC an6 Try.f6.ntmps (Try.f6.body.getD .skip)) = true := by kernel_rfl
theorem tie6 (C : Cb) (a0 a1 a2 a3 : V) (H : Hp) (R : List V → Hp → Prop) : wpG Try.prog C an6 (Try.f6.body.getD .skip) (argF [a0, a1, a2, a3]) H (retG Try.prog C Try.f6 R) (fun _ _ _ => False) (retG Try.prog C Try.f6 R) = vc6 C a0 a1 a2 a3 H R := by kernel_rfl
theorem mk6 (a0 a1 a2 a3 : V) {H : Hp} {v : V} {H1 : Hp} (hd : v.Nd) (hn : H.length ≤ H1.length) (hb : H1 = H ∨ ∀ (b : Nat) (blk : Blk), H1[b]? = some blk → H[b]? = some blk ∨ BelB H1.length blk) (h : vc6 (real Try.prog) a0 a1 a2 a3 H (retF v H1)) : Ret Try.prog 6 [a0, a1, a2, a3] H v H1 :=
  ret_mk (an := an6) hm Try.call6 Try.func6 rfl wf6 hd hn hb (Eq.mpr (tie6 (real Try.prog) a0 a1 a2 a3 H (retF v H1)) h)
theorem mkE6 (a0 a1 a2 a3 : V) {H : Hp} {Q : V → Hp → Prop} (h : vc6 (real Try.prog) a0 a1 a2 a3 H (retW Q)) : RetE Try.prog 6 [a0, a1, a2, a3] H Q :=
  retE_mk (an := an6) hm Try.call6 Try.func6 rfl wf6 (Eq.mpr (tie6 (real Try.prog) a0 a1 a2 a3 H (retW Q)) h)
theorem mko6 (a0 a1 a2 a3 : V) {H : Hp} {xs : List V} {H1 : Hp} (hn : H.length ≤ H1.length) (hb : H1 = H ∨ ∀ (b : Nat) (blk : Blk), H1[b]? = some blk → H[b]? = some blk ∨ BelB H1.length blk) (h : vc6 (real Try.prog) a0 a1 a2 a3 H (retO xs H1)) : Ret Try.prog 6 [a0, a1, a2, a3] H (.arr xs .own) H1 :=
  ret_mko (an := an6) (t := 8) hm Try.call6 Try.func6 rfl wf6 rfl hn hb (Eq.mpr (tie6 (real Try.prog) a0 a1 a2 a3 H (retO xs H1)) h)
end Go.Proofs.Ytgodfjbmblghnaa


set_option linter.unusedVariables false
set_option linter.unusedSimpArgs false
set_option linter.unnecessarySimpa false
set_option maxRecDepth 20000
set_option maxHeartbeats 2000000
namespace Go.Proofs.Ytgodfjbmblghnaa
open Go Go.Ab Go.Proofs
attribute [local congr] g_bin g_nilS g_nilP g_un g_ext g_bx g_fa g_ld g_st g_ix g_ixA g_slc g_mk g_bs g_bd g_nc g_cv g_len g_lenT g_app g_appB g_cpy g_mm g_call g_callG g_calm g_calmG g_range g_res g_pick g_cond g_loop g_Jv g_eqS g_eqP g_fd g_ixT g_ta g_lkp g_upd g_mkM g_appS g_inv g_callE g_callEG g_invE g_zr g_wr
theorem rfE_sc (s : Sy) (n t g k : Int) : rfE s n t g k true = scE [s] n t g k := by
  unfold rfE scE
  simp only [List.all_cons, List.all_nil, Bool.and_true, true_and]
theorem spE_ok {s : Sy} {n t g k : Int} (h : okAsk s n t g k = true) : spE s n t g k = if (saW s n t g k).all gdW = true then 0 else 5 := if_pos h
theorem spL_ok {s : Sy} {n t g k : Int} (h : okAsk s n t g k = true) : spL s n t g k = trW s n t g k := if_pos h
theorem rd_mem {s : Sy} {n t g k m : Int} {l : List ByteArray} (h0 : 0 ≤ m) (h1 : m ≤ n) (h : isR s t g k l m = true) : m ∈ rdL s n t g k l := by
  unfold rdL
  refine List.mem_filter.2 ⟨List.mem_map.2 ⟨m.toNat, List.mem_range.2 (by omega), ?_⟩, h⟩
  show ((m.toNat : Nat) : Int) = m
  omega
theorem c6 (s : Sy) (n t g k : Int) (l : List ByteArray) (m : Int) (H : Hp) (sm : Sm s) (hl : l.length ≤ 9223372036854775807) (hx : ∀ x, x ∈ l → x.size ≤ 9223372036854775807) : Ret Try.prog 6 [syV s, asV n t g k, .arr (l.map tb) .no, I m] H (B true) H := by
  refine mk6 _ _ _ _ rfl (Nat.le_refl _) (.inl rfl) ?_
  simp only [vc6, real]
  repeat (first | (with_reducible first | refine Ju.go ?_ | (refine Hd.go ?_; intro K Q hK hQ; simp only [nod_agg, List.map_cons, nodL_imm, nodL_arr, nd_no, List.map_nil, e_bxI, okE_agg, lv_cons, List.length_nil, Nat.zero_add, Nat.reduceAdd, all_c, ck_I, ck_arr, all_n, Bool.and_self, and_true, true_and, nod_cptr, e_ldcA]; subst hK hQ) | refine Jr.go ?_) | refine sd ?_)
  refine callE_of (c14 s H sm) fun v H1 ⟨hH, b, hv⟩ => ?_
  replace hH := hH.symm
  subst hv hH
  cases b
  · repeat (first | (with_reducible first | refine Ju.go ?_ | (refine Hd.go ?_; intro K Q hK hQ; simp only [nod_imm, e_not, Bool.not_false, nod_cptr, Try.underlying3, nod_nod, e_fac, Nat.zero_add, lv_cons, List.length_nil, Nat.reduceAdd, Nat.reduceLeDiff, List.getD_cons_zero, e_ldc, e_leq, true_and, e_gtr, e_gT, j_and', e_gF, cond_true, j_one, nod_arr, nd_no, e_lenA, List.length_map, List.getD_cons_succ, e_cond, if_true]; subst hK hQ) | refine Jr.go ?_) | refine sd ?_)
    refine call_of (c15 _) ?_
    repeat (first | (with_reducible first | refine Ju.go ?_ | (refine Hd.go ?_; intro K Q hK hQ; simp only [Try.underlying3, Try.underlying4, Try.underlying5, Try.underlying9, Try.underlying29, Try.underlying57, Try.underlying55, j_one, j_side, j_tl, j_fl, nod_nod, nod_imm, nod_ints, nd_no, nd_own, nd_full, nd_fO, oF_ap, oF_succ, nod_sl, nod_ptr, nod_cptr, nod_fn, nod_junk, nodL_imm, nod_agg, nod_tup, nod2_imm, nod2_agg, cl_imm, cl_ints, cl_agg, e_add, e_sub, e_mul, e_quo, e_rem, e_eql, e_neq, e_lss, e_leq, e_gtr, e_geq, e_beq, e_bne, e_neg, e_not, e_pick, e_cond, e_gT, e_gF, e_len, e_lenA, e_lenS, e_ix, e_ixS, e_ldc, e_ldci, e_fa, rep_cl, rep_I, e_bx, okE_I, okE_B, okE_E8, okE_ints, stV_imm, stV_ints, j_and', j_or', List.getD_cons_zero, List.getD_cons_succ, List.map_cons, List.map_nil, decide_eq_true_eq, Int.toNat_natCast, Nat.mul_one, Nat.zero_add, true_and, and_true, List.length_map, Bool.not_eq_true', decide_eq_false_iff_not, nod_lists, e_lenL, e_ixL, okE_lists, bs1, bs1L, bs2L, e_app, e_appL, e_app0, e_app0L, e_slcLo, e_slcHi, e_slcLH, e_slcHH, e_slcLHH, e_callG, e_callY, e_calmG, e_slS0, e_slSLo, e_slSHi, e_slSLH, e_slSHH, e_slSLHH, e_max2, e_min2, e_max3, e_x20, e_x21, e_x30, e_x31, e_x32, nod2_ints, nod2_lists, rep_fl, bs0, e_nilE, if_true, if_false, cond_true, cond_false, decide_true, decide_false, eq_self, Bool.false_eq_true, false_implies, true_implies, ap_own, ap_full, e_slcLoL, e_slcHiL, e_slcLHL, hp_assoc, hp_cons, hp_nil, hp_len, hp_len_cons, hp_len_nil, lv_cons, lv_nil, vs_0, vs_s, spl_s, spl_0, spl_n, dr_s, dr_0, tk_s, tk_0, e_bxI, e_fac, e_facA, e_ldcA, e_ldcL, e_ldcF, okE_agg, ck_I, ck_B, ck_ints, ck_lists, ck_arr, ck_ptr, ck_cptr, ck_fn, all_c, all_n, stV_agg, stV_lists, stV_arr, stV_ptr, stV_cptr, stV_fn, nodL_ints, nodL_lists, nodL_ptr, nodL_cptr, nodL_fn, nodL_arr0, cl_arr, cl_ptr, cl_cptr, cl_fn, cl_lists, okE_arr, okE_fn, okE_ptr, okE_cptr, e_bd0, e_bd1, e_wr, Nat.reduceAdd, Nat.reduceLeDiff, Nat.reduceEqDiff, Nat.add_zero, Bool.and_self, Bool.true_and, Bool.and_true, e_lc0, e_lA0, e_lM0, e_sc0, e_rc0, e_rA0, e_lI0, e_sI0, e_cI0, e_lc1, e_lA1, e_lM1, e_sc1, e_rc1, e_rA1, e_lI1, e_sI1, e_cI1, e_lc2, e_lA2, e_lM2, e_sc2, e_rc2, e_rA2, e_lI2, e_sI2, e_cI2, e_lc3, e_lA3, e_lM3, e_sc3, e_rc3, e_rA3, e_lI3, e_sI3, e_cI3, e_lc4, e_lA4, e_lM4, e_sc4, e_rc4, e_rA4, e_lI4, e_sI4, e_cI4, e_lc5, e_lA5, e_lM5, e_sc5, e_rc5, e_rA5, e_lI5, e_sI5, e_cI5, own0_arr, own0_ints, own0_lists, own0_imm, own0_ptr, own0_cptr, own0_fn, own0_agg, e_appB, e_appB0, ck_sl, own0_sl, stV_sl, nodL_sl, cl_sl, okE_sl, e_mkM, e_mkI, e_mkIm, e_callB, nod_bfn, nod_ifc, nod_map, nodL_ifc, nodL_bfn, nodL_map, cl_ifc, cl_bfn, ck_ifc, ck_bfn, ck_map, stV_ifc, okE_ifc, okE_bfn, nod_arr, nodL_arr, e_addU, e_mulU, e_shrK, e_shlK, e_andK, e_cv64, e_cv32, e_callEG, e_callEY, e_callEB, e_zr, e_nilSl, e_ncP, e_ncC, e_npnP, e_npeP, e_npnC, e_npeC, e_npnN, e_npeN, e_ixAP, e_ldcP, e_ldcS, e_ldcV, e_ldcT, okE_nilP, ck_nilP, okE_nilI, ck_nilI, okE_str, ck_str, e_tlen, e_tix, e_teq, e_tne, e_tadd, e_tb, e_u8lss, e_u8gtr, noV_full, nod_arr, List.length_map, reduceIte, Int.reduceEq, Int.reduceNeg, ne_eq, not_true_eq_false, not_false_eq_true, Bool.not_true, Bool.not_false, Bool.true_or, Bool.or_true, Bool.false_or, Bool.or_false, Bool.and_true, Bool.and_false, Bool.false_and, Bool.not_not, Bool.or_self, List.length_nil, Int.ofNat_zero, Int.cast_ofNat_Int, Int.natCast_zero, beq_self_eq_true, Bool.true_eq_false]; subst hK hQ) | refine Jr.go ?_) | refine sd ?_)
    exact end1 (fzI _)
  · by_cases h3 : (decide (300 < n) && decide (n ≤ 20000)) = true
    · rw [Bool.and_eq_true, decide_eq_true_eq, decide_eq_true_eq] at h3
      obtain ⟨h3, h4⟩ := h3
      repeat (first | (with_reducible first | refine Ju.go ?_ | (refine Hd.go ?_; intro K Q hK hQ; simp only [nod_imm, e_not, Bool.not_true, nod_cptr, Try.underlying3, nod_nod, e_fac, Nat.zero_add, lv_cons, List.length_nil, Nat.reduceAdd, Nat.reduceLeDiff, List.getD_cons_zero, e_ldc, e_leq, h4, decide_true, true_and, e_gtr, h3, e_gT, cond_true, e_gF, cond_false, j_one, nod_arr, nd_no, e_lenA, List.length_map, List.getD_cons_succ, e_cond, if_true]; subst hK hQ) | refine Jr.go ?_) | refine sd ?_)
      refine call_of (c15 _) ?_
      repeat (first | (with_reducible first | refine Ju.go ?_ | (refine Hd.go ?_; intro K Q hK hQ; simp only [Try.underlying3, Try.underlying4, Try.underlying5, Try.underlying9, Try.underlying29, Try.underlying57, Try.underlying55, j_one, j_side, j_tl, j_fl, nod_nod, nod_imm, nod_ints, nd_no, nd_own, nd_full, nd_fO, oF_ap, oF_succ, nod_sl, nod_ptr, nod_cptr, nod_fn, nod_junk, nodL_imm, nod_agg, nod_tup, nod2_imm, nod2_agg, cl_imm, cl_ints, cl_agg, e_add, e_sub, e_mul, e_quo, e_rem, e_eql, e_neq, e_lss, e_leq, e_gtr, e_geq, e_beq, e_bne, e_neg, e_not, e_pick, e_cond, e_gT, e_gF, e_len, e_lenA, e_lenS, e_ix, e_ixS, e_ldc, e_ldci, e_fa, rep_cl, rep_I, e_bx, okE_I, okE_B, okE_E8, okE_ints, stV_imm, stV_ints, j_and', j_or', List.getD_cons_zero, List.getD_cons_succ, List.map_cons, List.map_nil, decide_eq_true_eq, Int.toNat_natCast, Nat.mul_one, Nat.zero_add, true_and, and_true, List.length_map, Bool.not_eq_true', decide_eq_false_iff_not, nod_lists, e_lenL, e_ixL, okE_lists, bs1, bs1L, bs2L, e_app, e_appL, e_app0, e_app0L, e_slcLo, e_slcHi, e_slcLH, e_slcHH, e_slcLHH, e_callG, e_callY, e_calmG, e_slS0, e_slSLo, e_slSHi, e_slSLH, e_slSHH, e_slSLHH, e_max2, e_min2, e_max3, e_x20, e_x21, e_x30, e_x31, e_x32, nod2_ints, nod2_lists, rep_fl, bs0, e_nilE, if_true, if_false, cond_true, cond_false, decide_true, decide_false, eq_self, Bool.false_eq_true, false_implies, true_implies, ap_own, ap_full, e_slcLoL, e_slcHiL, e_slcLHL, hp_assoc, hp_cons, hp_nil, hp_len, hp_len_cons, hp_len_nil, lv_cons, lv_nil, vs_0, vs_s, spl_s, spl_0, spl_n, dr_s, dr_0, tk_s, tk_0, e_bxI, e_fac, e_facA, e_ldcA, e_ldcL, e_ldcF, okE_agg, ck_I, ck_B, ck_ints, ck_lists, ck_arr, ck_ptr, ck_cptr, ck_fn, all_c, all_n, stV_agg, stV_lists, stV_arr, stV_ptr, stV_cptr, stV_fn, nodL_ints, nodL_lists, nodL_ptr, nodL_cptr, nodL_fn, nodL_arr0, cl_arr, cl_ptr, cl_cptr, cl_fn, cl_lists, okE_arr, okE_fn, okE_ptr, okE_cptr, e_bd0, e_bd1, e_wr, Nat.reduceAdd, Nat.reduceLeDiff, Nat.reduceEqDiff, Nat.add_zero, Bool.and_self, Bool.true_and, Bool.and_true, e_lc0, e_lA0, e_lM0, e_sc0, e_rc0, e_rA0, e_lI0, e_sI0, e_cI0, e_lc1, e_lA1, e_lM1, e_sc1, e_rc1, e_rA1, e_lI1, e_sI1, e_cI1, e_lc2, e_lA2, e_lM2, e_sc2, e_rc2, e_rA2, e_lI2, e_sI2, e_cI2, e_lc3, e_lA3, e_lM3, e_sc3, e_rc3, e_rA3, e_lI3, e_sI3, e_cI3, e_lc4, e_lA4, e_lM4, e_sc4, e_rc4, e_rA4, e_lI4, e_sI4, e_cI4, e_lc5, e_lA5, e_lM5, e_sc5, e_rc5, e_rA5, e_lI5, e_sI5, e_cI5, own0_arr, own0_ints, own0_lists, own0_imm, own0_ptr, own0_cptr, own0_fn, own0_agg, e_appB, e_appB0, ck_sl, own0_sl, stV_sl, nodL_sl, cl_sl, okE_sl, e_mkM, e_mkI, e_mkIm, e_callB, nod_bfn, nod_ifc, nod_map, nodL_ifc, nodL_bfn, nodL_map, cl_ifc, cl_bfn, ck_ifc, ck_bfn, ck_map, stV_ifc, okE_ifc, okE_bfn, nod_arr, nodL_arr, e_addU, e_mulU, e_shrK, e_shlK, e_andK, e_cv64, e_cv32, e_callEG, e_callEY, e_callEB, e_zr, e_nilSl, e_ncP, e_ncC, e_npnP, e_npeP, e_npnC, e_npeC, e_npnN, e_npeN, e_ixAP, e_ldcP, e_ldcS, e_ldcV, e_ldcT, okE_nilP, ck_nilP, okE_nilI, ck_nilI, okE_str, ck_str, e_tlen, e_tix, e_teq, e_tne, e_tadd, e_tb, e_u8lss, e_u8gtr, noV_full, nod_arr, List.length_map, reduceIte, Int.reduceEq, Int.reduceNeg, ne_eq, not_true_eq_false, not_false_eq_true, Bool.not_true, Bool.not_false, Bool.true_or, Bool.or_true, Bool.false_or, Bool.or_false, Bool.and_true, Bool.and_false, Bool.false_and, Bool.not_not, Bool.or_self, List.length_nil, Int.ofNat_zero, Int.cast_ofNat_Int, Int.natCast_zero, beq_self_eq_true, Bool.true_eq_false]; subst hK hQ) | refine Jr.go ?_) | refine sd ?_)
      exact end1 (fzI _)
    · by_cases h6 : 60 < (l.length : Int)
      · repeat (first | (with_reducible first | refine Ju.go ?_ | (refine Hd.go ?_; intro K Q hK hQ; simp only [nod_imm, e_not, Bool.not_true, nod_cptr, Try.underlying3, nod_nod, e_fac, Nat.zero_add, lv_cons, List.length_nil, Nat.reduceAdd, Nat.reduceLeDiff, List.getD_cons_zero, e_ldc, e_leq, true_and, e_gtr, e_gT, j_and', h3, e_gF, cond_false, j_one, nod_arr, nd_no, e_lenA, List.length_map, h6, decide_true, List.getD_cons_succ, e_cond, if_true]; subst hK hQ) | refine Jr.go ?_) | refine sd ?_)
        refine call_of (c15 _) ?_
        repeat (first | (with_reducible first | refine Ju.go ?_ | (refine Hd.go ?_; intro K Q hK hQ; simp only [Try.underlying3, Try.underlying4, Try.underlying5, Try.underlying9, Try.underlying29, Try.underlying57, Try.underlying55, j_one, j_side, j_tl, j_fl, nod_nod, nod_imm, nod_ints, nd_no, nd_own, nd_full, nd_fO, oF_ap, oF_succ, nod_sl, nod_ptr, nod_cptr, nod_fn, nod_junk, nodL_imm, nod_agg, nod_tup, nod2_imm, nod2_agg, cl_imm, cl_ints, cl_agg, e_add, e_sub, e_mul, e_quo, e_rem, e_eql, e_neq, e_lss, e_leq, e_gtr, e_geq, e_beq, e_bne, e_neg, e_not, e_pick, e_cond, e_gT, e_gF, e_len, e_lenA, e_lenS, e_ix, e_ixS, e_ldc, e_ldci, e_fa, rep_cl, rep_I, e_bx, okE_I, okE_B, okE_E8, okE_ints, stV_imm, stV_ints, j_and', j_or', List.getD_cons_zero, List.getD_cons_succ, List.map_cons, List.map_nil, decide_eq_true_eq, Int.toNat_natCast, Nat.mul_one, Nat.zero_add, true_and, and_true, List.length_map, Bool.not_eq_true', decide_eq_false_iff_not, nod_lists, e_lenL, e_ixL, okE_lists, bs1, bs1L, bs2L, e_app, e_appL, e_app0, e_app0L, e_slcLo, e_slcHi, e_slcLH, e_slcHH, e_slcLHH, e_callG, e_callY, e_calmG, e_slS0, e_slSLo, e_slSHi, e_slSLH, e_slSHH, e_slSLHH, e_max2, e_min2, e_max3, e_x20, e_x21, e_x30, e_x31, e_x32, nod2_ints, nod2_lists, rep_fl, bs0, e_nilE, if_true, if_false, cond_true, cond_false, decide_true, decide_false, eq_self, Bool.false_eq_true, false_implies, true_implies, ap_own, ap_full, e_slcLoL, e_slcHiL, e_slcLHL, hp_assoc, hp_cons, hp_nil, hp_len, hp_len_cons, hp_len_nil, lv_cons, lv_nil, vs_0, vs_s, spl_s, spl_0, spl_n, dr_s, dr_0, tk_s, tk_0, e_bxI, e_fac, e_facA, e_ldcA, e_ldcL, e_ldcF, okE_agg, ck_I, ck_B, ck_ints, ck_lists, ck_arr, ck_ptr, ck_cptr, ck_fn, all_c, all_n, stV_agg, stV_lists, stV_arr, stV_ptr, stV_cptr, stV_fn, nodL_ints, nodL_lists, nodL_ptr, nodL_cptr, nodL_fn, nodL_arr0, cl_arr, cl_ptr, cl_cptr, cl_fn, cl_lists, okE_arr, okE_fn, okE_ptr, okE_cptr, e_bd0, e_bd1, e_wr, Nat.reduceAdd, Nat.reduceLeDiff, Nat.reduceEqDiff, Nat.add_zero, Bool.and_self, Bool.true_and, Bool.and_true, e_lc0, e_lA0, e_lM0, e_sc0, e_rc0, e_rA0, e_lI0, e_sI0, e_cI0, e_lc1, e_lA1, e_lM1, e_sc1, e_rc1, e_rA1, e_lI1, e_sI1, e_cI1, e_lc2, e_lA2, e_lM2, e_sc2, e_rc2, e_rA2, e_lI2, e_sI2, e_cI2, e_lc3, e_lA3, e_lM3, e_sc3, e_rc3, e_rA3, e_lI3, e_sI3, e_cI3, e_lc4, e_lA4, e_lM4, e_sc4, e_rc4, e_rA4, e_lI4, e_sI4, e_cI4, e_lc5, e_lA5, e_lM5, e_sc5, e_rc5, e_rA5, e_lI5, e_sI5, e_cI5, own0_arr, own0_ints, own0_lists, own0_imm, own0_ptr, own0_cptr, own0_fn, own0_agg, e_appB, e_appB0, ck_sl, own0_sl, stV_sl, nodL_sl, cl_sl, okE_sl, e_mkM, e_mkI, e_mkIm, e_callB, nod_bfn, nod_ifc, nod_map, nodL_ifc, nodL_bfn, nodL_map, cl_ifc, cl_bfn, ck_ifc, ck_bfn, ck_map, stV_ifc, okE_ifc, okE_bfn, nod_arr, nodL_arr, e_addU, e_mulU, e_shrK, e_shlK, e_andK, e_cv64, e_cv32, e_callEG, e_callEY, e_callEB, e_zr, e_nilSl, e_ncP, e_ncC, e_npnP, e_npeP, e_npnC, e_npeC, e_npnN, e_npeN, e_ixAP, e_ldcP, e_ldcS, e_ldcV, e_ldcT, okE_nilP, ck_nilP, okE_nilI, ck_nilI, okE_str, ck_str, e_tlen, e_tix, e_teq, e_tne, e_tadd, e_tb, e_u8lss, e_u8gtr, noV_full, nod_arr, List.length_map, reduceIte, Int.reduceEq, Int.reduceNeg, ne_eq, not_true_eq_false, not_false_eq_true, Bool.not_true, Bool.not_false, Bool.true_or, Bool.or_true, Bool.false_or, Bool.or_false, Bool.and_true, Bool.and_false, Bool.false_and, Bool.not_not, Bool.or_self, List.length_nil, Int.ofNat_zero, Int.cast_ofNat_Int, Int.natCast_zero, beq_self_eq_true, Bool.true_eq_false]; subst hK hQ) | refine Jr.go ?_) | refine sd ?_)
        exact end1 (fzI _)
      · repeat (first | (with_reducible first | refine Ju.go ?_ | (refine Hd.go ?_; intro K Q hK hQ; simp only [nod_imm, e_not, Bool.not_true, nod_cptr, Try.underlying3, nod_nod, e_fac, Nat.zero_add, lv_cons, List.length_nil, Nat.reduceAdd, Nat.reduceLeDiff, List.getD_cons_zero, e_ldc, e_leq, true_and, e_gtr, e_gT, j_and', h3, e_gF, cond_false, j_one, nod_arr, nd_no, e_lenA, List.length_map, h6, decide_false, List.getD_cons_succ, e_cond, Bool.false_eq_true, if_false]; subst hK hQ) | refine Jr.go ?_) | refine sd ?_)
        refine loop_of (fun i : Nat => i ≤ l.length) (fun i => [.arr (l.map tb) .no, I m, .cptr (syV s), .cptr (asV n t g k), I i]) (fun _ => H) (fun i => l.length - i) 0 (Nat.zero_le _) rfl rfl ?_
        intro i hi
        repeat (first | (with_reducible first | refine Ju.go ?_ | (refine Hd.go ?_; intro K Q hK hQ; simp only [List.getD_cons_zero, nod_arr, nd_no, e_lenA, List.length_map, List.getD_cons_succ, nod_imm, Try.underlying3, e_lss, e_cond, decide_eq_true_eq]; subst hK hQ) | refine Jr.go ?_) | refine sd ?_)
        by_cases hlt : i < l.length
        · have d : (i : Int) < l.length := by omega
          have := hx _ (getD_memA l default hlt)
          repeat (first | (with_reducible first | refine Ju.go ?_ | (refine Hd.go ?_; intro K Q hK hQ; simp only [d, if_true, List.getD_cons_zero, nod_arr, nd_no, List.getD_cons_succ, nod_imm, ix_tb, Int.toNat_natCast, true_and, nod_cptr, e_ldc, e_tlen, Try.underlying3, e_gtr, e_cond, decide_eq_true_eq]; subst hK hQ) | refine Jr.go ?_) | refine sd ?_)
          by_cases h60 : 60 < ((l.getD i default).size : Int)
          · repeat (first | (with_reducible first | refine Ju.go ?_ | (refine Hd.go ?_; intro K Q hK hQ; simp only [h60, if_true]; subst hK hQ) | refine Jr.go ?_) | refine sd ?_)
            refine call_of (c15 _) ?_
            repeat (first | (with_reducible first | refine Ju.go ?_ | (refine Hd.go ?_; intro K Q hK hQ; simp only [Try.underlying3, Try.underlying4, Try.underlying5, Try.underlying9, Try.underlying29, Try.underlying57, Try.underlying55, j_one, j_side, j_tl, j_fl, nod_nod, nod_imm, nod_ints, nd_no, nd_own, nd_full, nd_fO, oF_ap, oF_succ, nod_sl, nod_ptr, nod_cptr, nod_fn, nod_junk, nodL_imm, nod_agg, nod_tup, nod2_imm, nod2_agg, cl_imm, cl_ints, cl_agg, e_add, e_sub, e_mul, e_quo, e_rem, e_eql, e_neq, e_lss, e_leq, e_gtr, e_geq, e_beq, e_bne, e_neg, e_not, e_pick, e_cond, e_gT, e_gF, e_len, e_lenA, e_lenS, e_ix, e_ixS, e_ldc, e_ldci, e_fa, rep_cl, rep_I, e_bx, okE_I, okE_B, okE_E8, okE_ints, stV_imm, stV_ints, j_and', j_or', List.getD_cons_zero, List.getD_cons_succ, List.map_cons, List.map_nil, decide_eq_true_eq, Int.toNat_natCast, Nat.mul_one, Nat.zero_add, true_and, and_true, List.length_map, Bool.not_eq_true', decide_eq_false_iff_not, nod_lists, e_lenL, e_ixL, okE_lists, bs1, bs1L, bs2L, e_app, e_appL, e_app0, e_app0L, e_slcLo, e_slcHi, e_slcLH, e_slcHH, e_slcLHH, e_callG, e_callY, e_calmG, e_slS0, e_slSLo, e_slSHi, e_slSLH, e_slSHH, e_slSLHH, e_max2, e_min2, e_max3, e_x20, e_x21, e_x30, e_x31, e_x32, nod2_ints, nod2_lists, rep_fl, bs0, e_nilE, if_true, if_false, cond_true, cond_false, decide_true, decide_false, eq_self, Bool.false_eq_true, false_implies, true_implies, ap_own, ap_full, e_slcLoL, e_slcHiL, e_slcLHL, hp_assoc, hp_cons, hp_nil, hp_len, hp_len_cons, hp_len_nil, lv_cons, lv_nil, vs_0, vs_s, spl_s, spl_0, spl_n, dr_s, dr_0, tk_s, tk_0, e_bxI, e_fac, e_facA, e_ldcA, e_ldcL, e_ldcF, okE_agg, ck_I, ck_B, ck_ints, ck_lists, ck_arr, ck_ptr, ck_cptr, ck_fn, all_c, all_n, stV_agg, stV_lists, stV_arr, stV_ptr, stV_cptr, stV_fn, nodL_ints, nodL_lists, nodL_ptr, nodL_cptr, nodL_fn, nodL_arr0, cl_arr, cl_ptr, cl_cptr, cl_fn, cl_lists, okE_arr, okE_fn, okE_ptr, okE_cptr, e_bd0, e_bd1, e_wr, Nat.reduceAdd, Nat.reduceLeDiff, Nat.reduceEqDiff, Nat.add_zero, Bool.and_self, Bool.true_and, Bool.and_true, e_lc0, e_lA0, e_lM0, e_sc0, e_rc0, e_rA0, e_lI0, e_sI0, e_cI0, e_lc1, e_lA1, e_lM1, e_sc1, e_rc1, e_rA1, e_lI1, e_sI1, e_cI1, e_lc2, e_lA2, e_lM2, e_sc2, e_rc2, e_rA2, e_lI2, e_sI2, e_cI2, e_lc3, e_lA3, e_lM3, e_sc3, e_rc3, e_rA3, e_lI3, e_sI3, e_cI3, e_lc4, e_lA4, e_lM4, e_sc4, e_rc4, e_rA4, e_lI4, e_sI4, e_cI4, e_lc5, e_lA5, e_lM5, e_sc5, e_rc5, e_rA5, e_lI5, e_sI5, e_cI5, own0_arr, own0_ints, own0_lists, own0_imm, own0_ptr, own0_cptr, own0_fn, own0_agg, e_appB, e_appB0, ck_sl, own0_sl, stV_sl, nodL_sl, cl_sl, okE_sl, e_mkM, e_mkI, e_mkIm, e_callB, nod_bfn, nod_ifc, nod_map, nodL_ifc, nodL_bfn, nodL_map, cl_ifc, cl_bfn, ck_ifc, ck_bfn, ck_map, stV_ifc, okE_ifc, okE_bfn, nod_arr, nodL_arr, e_addU, e_mulU, e_shrK, e_shlK, e_andK, e_cv64, e_cv32, e_callEG, e_callEY, e_callEB, e_zr, e_nilSl, e_ncP, e_ncC, e_npnP, e_npeP, e_npnC, e_npeC, e_npnN, e_npeN, e_ixAP, e_ldcP, e_ldcS, e_ldcV, e_ldcT, okE_nilP, ck_nilP, okE_nilI, ck_nilI, okE_str, ck_str, e_tlen, e_tix, e_teq, e_tne, e_tadd, e_tb, e_u8lss, e_u8gtr, noV_full, nod_arr, List.length_map, reduceIte, Int.reduceEq, Int.reduceNeg, ne_eq, not_true_eq_false, not_false_eq_true, Bool.not_true, Bool.not_false, Bool.true_or, Bool.or_true, Bool.false_or, Bool.or_false, Bool.and_true, Bool.and_false, Bool.false_and, Bool.not_not, Bool.or_self, List.length_nil, Int.ofNat_zero, Int.cast_ofNat_Int, Int.natCast_zero, beq_self_eq_true, Bool.true_eq_false]; subst hK hQ) | refine Jr.go ?_) | refine sd ?_)
            exact end1 (fzI _)
          · repeat (first | (with_reducible first | refine Ju.go ?_ | (refine Hd.go ?_; intro K Q hK hQ; simp only [h60, if_false, List.getD_cons_zero, List.getD_cons_succ, nod_imm, Try.underlying3, e_add]; subst hK hQ) | refine Jr.go ?_) | refine sd ?_)
            exact ⟨i + 1, by omega, rfl, rfl, by omega⟩
        · have d : ¬ (i : Int) < l.length := by omega
          repeat (first | (with_reducible first | refine Ju.go ?_ | (refine Hd.go ?_; intro K Q hK hQ; simp only [d, if_false, List.getD_cons_succ, List.getD_cons_zero, nod_cptr, e_ldcA, lv_cons, List.length_nil, Nat.zero_add, Nat.reduceAdd, true_and, nod_agg, List.map_cons, nodL_imm, nodL_arr, nd_no, List.map_nil, nod_arr]; subst hK hQ) | refine Jr.go ?_) | refine sd ?_)
          refine call_of (c27 s n t g k l _ sm) ?_
          have e := rfE_sc s n t g k
          by_cases he : scE [s] n t g k = 0
          · obtain ⟨ho, n0, n2⟩ := scE_0 he
            have e1 : rdE s n t g k l = if rdL s n t g k l = [] then 5 else 0 := by unfold rdE; rw [if_neg (fun h => h he)]
            have e2 : rdR s n t g k l = rdL s n t g k l := by unfold rdR; rw [if_neg (fun h => h he)]
            rw [he] at e
            have hlr := rd_len s t g k l (n.toNat + 1)
            have hlr : (rdL s n t g k l).length ≤ n.toNat + 1 := hlr
            rw [e1, e2]
            generalize hrl : rdL s n t g k l = rl at *
            generalize hre : (if rl = [] then (5 : Int) else 0) = re at *
            repeat (first | (with_reducible first | refine Ju.go ?_ | (refine Hd.go ?_; intro K Q hK hQ; simp only [nod_tup, List.map_cons, nod2_ints, nd_no, nod2_imm, List.map_nil, e_x20, e_x21, List.getD_cons_zero, List.getD_cons_succ, nod_cptr, e_ldcA, lv_cons, List.length_nil, Nat.zero_add, Nat.reduceAdd, true_and, nod_agg, nodL_imm, nodL_arr]; subst hK hQ) | refine Jr.go ?_) | refine sd ?_)
            refine call_of (c22 s n t g k true _ sm) ?_
            rw [e]
            repeat (first | (with_reducible first | refine Ju.go ?_ | (refine Hd.go ?_; intro K Q hK hQ; simp only [nod_imm, Try.underlying29, e_neq, decide_true, Bool.not_true, e_cond, Bool.false_eq_true, if_false, List.getD_cons_zero, List.getD_cons_succ, nod_cptr, e_ldcA, lv_cons, List.length_nil, Nat.zero_add, Nat.reduceAdd, true_and, nod_agg, List.map_cons, nodL_imm, nodL_arr, nd_no, List.map_nil, nod_arr]; subst hK hQ) | refine Jr.go ?_) | refine sd ?_)
            refine call_of (c28 s n t g k l _ sm ho n2) ?_
            rw [hrl]
            refine jn_go ?_
            generalize hR : Rn _ = R
            have key : R [I m, .cptr (syV s), .cptr (asV n t g k)] H := by
              rw [← hR]
              refine rn_go ?_
              by_cases hm0 : m < 0
              · repeat (first | (with_reducible first | refine Ju.go ?_ | (refine Hd.go ?_; intro K Q hK hQ; simp only [List.getD_cons_zero, nod_imm, Try.underlying3, e_lss, hm0, decide_true, List.getD_cons_succ, nod_cptr, e_fac, Nat.zero_add, lv_cons, List.length_nil, Nat.reduceAdd, Nat.reduceLeDiff, e_ldc, e_gtr, true_and, e_gF, cond_true, j_one, e_cond, if_true]; subst hK hQ) | refine Jr.go ?_) | refine sd ?_)
                refine call_of (c15 _) ?_
                repeat (first | (with_reducible first | refine Ju.go ?_ | (refine Hd.go ?_; intro K Q hK hQ; simp only [Try.underlying3, Try.underlying4, Try.underlying5, Try.underlying9, Try.underlying29, Try.underlying57, Try.underlying55, j_one, j_side, j_tl, j_fl, nod_nod, nod_imm, nod_ints, nd_no, nd_own, nd_full, nd_fO, oF_ap, oF_succ, nod_sl, nod_ptr, nod_cptr, nod_fn, nod_junk, nodL_imm, nod_agg, nod_tup, nod2_imm, nod2_agg, cl_imm, cl_ints, cl_agg, e_add, e_sub, e_mul, e_quo, e_rem, e_eql, e_neq, e_lss, e_leq, e_gtr, e_geq, e_beq, e_bne, e_neg, e_not, e_pick, e_cond, e_gT, e_gF, e_len, e_lenA, e_lenS, e_ix, e_ixS, e_ldc, e_ldci, e_fa, rep_cl, rep_I, e_bx, okE_I, okE_B, okE_E8, okE_ints, stV_imm, stV_ints, j_and', j_or', List.getD_cons_zero, List.getD_cons_succ, List.map_cons, List.map_nil, decide_eq_true_eq, Int.toNat_natCast, Nat.mul_one, Nat.zero_add, true_and, and_true, List.length_map, Bool.not_eq_true', decide_eq_false_iff_not, nod_lists, e_lenL, e_ixL, okE_lists, bs1, bs1L, bs2L, e_app, e_appL, e_app0, e_app0L, e_slcLo, e_slcHi, e_slcLH, e_slcHH, e_slcLHH, e_callG, e_callY, e_calmG, e_slS0, e_slSLo, e_slSHi, e_slSLH, e_slSHH, e_slSLHH, e_max2, e_min2, e_max3, e_x20, e_x21, e_x30, e_x31, e_x32, nod2_ints, nod2_lists, rep_fl, bs0, e_nilE, if_true, if_false, cond_true, cond_false, decide_true, decide_false, eq_self, Bool.false_eq_true, false_implies, true_implies, ap_own, ap_full, e_slcLoL, e_slcHiL, e_slcLHL, hp_assoc, hp_cons, hp_nil, hp_len, hp_len_cons, hp_len_nil, lv_cons, lv_nil, vs_0, vs_s, spl_s, spl_0, spl_n, dr_s, dr_0, tk_s, tk_0, e_bxI, e_fac, e_facA, e_ldcA, e_ldcL, e_ldcF, okE_agg, ck_I, ck_B, ck_ints, ck_lists, ck_arr, ck_ptr, ck_cptr, ck_fn, all_c, all_n, stV_agg, stV_lists, stV_arr, stV_ptr, stV_cptr, stV_fn, nodL_ints, nodL_lists, nodL_ptr, nodL_cptr, nodL_fn, nodL_arr0, cl_arr, cl_ptr, cl_cptr, cl_fn, cl_lists, okE_arr, okE_fn, okE_ptr, okE_cptr, e_bd0, e_bd1, e_wr, Nat.reduceAdd, Nat.reduceLeDiff, Nat.reduceEqDiff, Nat.add_zero, Bool.and_self, Bool.true_and, Bool.and_true, e_lc0, e_lA0, e_lM0, e_sc0, e_rc0, e_rA0, e_lI0, e_sI0, e_cI0, e_lc1, e_lA1, e_lM1, e_sc1, e_rc1, e_rA1, e_lI1, e_sI1, e_cI1, e_lc2, e_lA2, e_lM2, e_sc2, e_rc2, e_rA2, e_lI2, e_sI2, e_cI2, e_lc3, e_lA3, e_lM3, e_sc3, e_rc3, e_rA3, e_lI3, e_sI3, e_cI3, e_lc4, e_lA4, e_lM4, e_sc4, e_rc4, e_rA4, e_lI4, e_sI4, e_cI4, e_lc5, e_lA5, e_lM5, e_sc5, e_rc5, e_rA5, e_lI5, e_sI5, e_cI5, own0_arr, own0_ints, own0_lists, own0_imm, own0_ptr, own0_cptr, own0_fn, own0_agg, e_appB, e_appB0, ck_sl, own0_sl, stV_sl, nodL_sl, cl_sl, okE_sl, e_mkM, e_mkI, e_mkIm, e_callB, nod_bfn, nod_ifc, nod_map, nodL_ifc, nodL_bfn, nodL_map, cl_ifc, cl_bfn, ck_ifc, ck_bfn, ck_map, stV_ifc, okE_ifc, okE_bfn, nod_arr, nodL_arr, e_addU, e_mulU, e_shrK, e_shlK, e_andK, e_cv64, e_cv32, e_callEG, e_callEY, e_callEB, e_zr, e_nilSl, e_ncP, e_ncC, e_npnP, e_npeP, e_npnC, e_npeC, e_npnN, e_npeN, e_ixAP, e_ldcP, e_ldcS, e_ldcV, e_ldcT, okE_nilP, ck_nilP, okE_nilI, ck_nilI, okE_str, ck_str, e_tlen, e_tix, e_teq, e_tne, e_tadd, e_tb, e_u8lss, e_u8gtr, noV_full, nod_arr, List.length_map, reduceIte, Int.reduceEq, Int.reduceNeg, ne_eq, not_true_eq_false, not_false_eq_true, Bool.not_true, Bool.not_false, Bool.true_or, Bool.or_true, Bool.false_or, Bool.or_false, Bool.and_true, Bool.and_false, Bool.false_and, Bool.not_not, Bool.or_self, List.length_nil, Int.ofNat_zero, Int.cast_ofNat_Int, Int.natCast_zero, beq_self_eq_true, Bool.true_eq_false]; subst hK hQ) | refine Jr.go ?_) | refine sd ?_)
                exact end1 (fzI _)
              by_cases hm1 : n < m
              · repeat (first | (with_reducible first | refine Ju.go ?_ | (refine Hd.go ?_; intro K Q hK hQ; simp only [List.getD_cons_zero, nod_imm, Try.underlying3, e_lss, hm0, decide_false, List.getD_cons_succ, nod_cptr, e_fac, Nat.zero_add, lv_cons, List.length_nil, Nat.reduceAdd, Nat.reduceLeDiff, e_ldc, e_gtr, hm1, decide_true, true_and, e_gF, cond_false, j_one, e_cond, if_true]; subst hK hQ) | refine Jr.go ?_) | refine sd ?_)
                refine call_of (c15 _) ?_
                repeat (first | (with_reducible first | refine Ju.go ?_ | (refine Hd.go ?_; intro K Q hK hQ; simp only [Try.underlying3, Try.underlying4, Try.underlying5, Try.underlying9, Try.underlying29, Try.underlying57, Try.underlying55, j_one, j_side, j_tl, j_fl, nod_nod, nod_imm, nod_ints, nd_no, nd_own, nd_full, nd_fO, oF_ap, oF_succ, nod_sl, nod_ptr, nod_cptr, nod_fn, nod_junk, nodL_imm, nod_agg, nod_tup, nod2_imm, nod2_agg, cl_imm, cl_ints, cl_agg, e_add, e_sub, e_mul, e_quo, e_rem, e_eql, e_neq, e_lss, e_leq, e_gtr, e_geq, e_beq, e_bne, e_neg, e_not, e_pick, e_cond, e_gT, e_gF, e_len, e_lenA, e_lenS, e_ix, e_ixS, e_ldc, e_ldci, e_fa, rep_cl, rep_I, e_bx, okE_I, okE_B, okE_E8, okE_ints, stV_imm, stV_ints, j_and', j_or', List.getD_cons_zero, List.getD_cons_succ, List.map_cons, List.map_nil, decide_eq_true_eq, Int.toNat_natCast, Nat.mul_one, Nat.zero_add, true_and, and_true, List.length_map, Bool.not_eq_true', decide_eq_false_iff_not, nod_lists, e_lenL, e_ixL, okE_lists, bs1, bs1L, bs2L, e_app, e_appL, e_app0, e_app0L, e_slcLo, e_slcHi, e_slcLH, e_slcHH, e_slcLHH, e_callG, e_callY, e_calmG, e_slS0, e_slSLo, e_slSHi, e_slSLH, e_slSHH, e_slSLHH, e_max2, e_min2, e_max3, e_x20, e_x21, e_x30, e_x31, e_x32, nod2_ints, nod2_lists, rep_fl, bs0, e_nilE, if_true, if_false, cond_true, cond_false, decide_true, decide_false, eq_self, Bool.false_eq_true, false_implies, true_implies, ap_own, ap_full, e_slcLoL, e_slcHiL, e_slcLHL, hp_assoc, hp_cons, hp_nil, hp_len, hp_len_cons, hp_len_nil, lv_cons, lv_nil, vs_0, vs_s, spl_s, spl_0, spl_n, dr_s, dr_0, tk_s, tk_0, e_bxI, e_fac, e_facA, e_ldcA, e_ldcL, e_ldcF, okE_agg, ck_I, ck_B, ck_ints, ck_lists, ck_arr, ck_ptr, ck_cptr, ck_fn, all_c, all_n, stV_agg, stV_lists, stV_arr, stV_ptr, stV_cptr, stV_fn, nodL_ints, nodL_lists, nodL_ptr, nodL_cptr, nodL_fn, nodL_arr0, cl_arr, cl_ptr, cl_cptr, cl_fn, cl_lists, okE_arr, okE_fn, okE_ptr, okE_cptr, e_bd0, e_bd1, e_wr, Nat.reduceAdd, Nat.reduceLeDiff, Nat.reduceEqDiff, Nat.add_zero, Bool.and_self, Bool.true_and, Bool.and_true, e_lc0, e_lA0, e_lM0, e_sc0, e_rc0, e_rA0, e_lI0, e_sI0, e_cI0, e_lc1, e_lA1, e_lM1, e_sc1, e_rc1, e_rA1, e_lI1, e_sI1, e_cI1, e_lc2, e_lA2, e_lM2, e_sc2, e_rc2, e_rA2, e_lI2, e_sI2, e_cI2, e_lc3, e_lA3, e_lM3, e_sc3, e_rc3, e_rA3, e_lI3, e_sI3, e_cI3, e_lc4, e_lA4, e_lM4, e_sc4, e_rc4, e_rA4, e_lI4, e_sI4, e_cI4, e_lc5, e_lA5, e_lM5, e_sc5, e_rc5, e_rA5, e_lI5, e_sI5, e_cI5, own0_arr, own0_ints, own0_lists, own0_imm, own0_ptr, own0_cptr, own0_fn, own0_agg, e_appB, e_appB0, ck_sl, own0_sl, stV_sl, nodL_sl, cl_sl, okE_sl, e_mkM, e_mkI, e_mkIm, e_callB, nod_bfn, nod_ifc, nod_map, nodL_ifc, nodL_bfn, nodL_map, cl_ifc, cl_bfn, ck_ifc, ck_bfn, ck_map, stV_ifc, okE_ifc, okE_bfn, nod_arr, nodL_arr, e_addU, e_mulU, e_shrK, e_shlK, e_andK, e_cv64, e_cv32, e_callEG, e_callEY, e_callEB, e_zr, e_nilSl, e_ncP, e_ncC, e_npnP, e_npeP, e_npnC, e_npeC, e_npnN, e_npeN, e_ixAP, e_ldcP, e_ldcS, e_ldcV, e_ldcT, okE_nilP, ck_nilP, okE_nilI, ck_nilI, okE_str, ck_str, e_tlen, e_tix, e_teq, e_tne, e_tadd, e_tb, e_u8lss, e_u8gtr, noV_full, nod_arr, List.length_map, reduceIte, Int.reduceEq, Int.reduceNeg, ne_eq, not_true_eq_false, not_false_eq_true, Bool.not_true, Bool.not_false, Bool.true_or, Bool.or_true, Bool.false_or, Bool.or_false, Bool.and_true, Bool.and_false, Bool.false_and, Bool.not_not, Bool.or_self, List.length_nil, Int.ofNat_zero, Int.cast_ofNat_Int, Int.natCast_zero, beq_self_eq_true, Bool.true_eq_false]; subst hK hQ) | refine Jr.go ?_) | refine sd ?_)
                exact end1 (fzI _)
              have hom := okAsk_le ho (show 0 ≤ m by omega) (show m ≤ n by omega)
              repeat (first | (with_reducible first | refine Ju.go ?_ | (refine Hd.go ?_; intro K Q hK hQ; simp only [List.getD_cons_zero, nod_imm, Try.underlying3, e_lss, hm0, decide_false, List.getD_cons_succ, nod_cptr, e_fac, Nat.zero_add, lv_cons, List.length_nil, Nat.reduceAdd, Nat.reduceLeDiff, e_ldc, e_gtr, hm1, true_and, e_gF, cond_false, j_one, e_cond, Bool.false_eq_true, if_false, e_ldcA, e_bx, okE_agg, all_c, ck_I, all_n, Bool.and_self, and_true, cl_agg, nod_ptr, e_sc0, stV_agg, List.map_cons, nodL_imm, List.map_nil, spl_0, spl_n, e_fa, Nat.add_zero, stV_imm, okE_I, cl_imm, e_lA0, dr_0, tk_s, tk_0, nod_agg, nodL_arr, nd_no]; subst hK hQ) | refine Jr.go ?_) | refine sd ?_)
              refine call_of (c20 s m t g k _ sm) ?_
              rw [spE_ok hom, spL_ok hom, tx_tb]
              cases hg : (saW s m t g k).all gdW
              · rw [if_neg (by decide), trW_no hg]
                repeat (first | (with_reducible first | refine Ju.go ?_ | (refine Hd.go ?_; intro K Q hK hQ; simp only [List.map_nil, nod_tup, List.map_cons, nod2_arr, nd_no, nod2_imm, e_x20, e_x21, List.getD_cons_zero, List.getD_cons_succ, nod_imm, Try.underlying29, e_neq, Int.reduceEq, decide_false, Bool.not_false, e_cond, if_true, e_eql, decide_true, e_gT, cond_true]; subst hK hQ) | refine Jr.go ?_) | refine sd ?_)
                refine call_of (c15 _) ?_
                repeat (first | (with_reducible first | refine Ju.go ?_ | (refine Hd.go ?_; intro K Q hK hQ; simp only [nod_imm]; subst hK hQ) | refine Jr.go ?_) | refine sd ?_)
                exact end1A (fzI _)
              · rw [if_pos rfl]
                have hmm := rd_mem (show 0 ≤ m by omega) (show m ≤ n by omega) (show isR s t g k ((trW s m t g k).map Sd.x) m = true by unfold isR; rw [hg, decide_eq_true rfl]; rfl)
                have hlr2 : (rdL s n t g k ((trW s m t g k).map Sd.x)).length ≤ n.toNat + 1 := rd_len s t g k _ (n.toNat + 1)
                have e3 : rdE s n t g k ((trW s m t g k).map Sd.x) = 0 := by unfold rdE; rw [if_neg (fun h => h he), if_neg (fun h => by rw [h] at hmm; cases hmm)]
                have e4 : rdR s n t g k ((trW s m t g k).map Sd.x) = rdL s n t g k ((trW s m t g k).map Sd.x) := by unfold rdR; rw [if_neg (fun h => h he)]
                repeat (first | (with_reducible first | refine Ju.go ?_ | (refine Hd.go ?_; intro K Q hK hQ; simp only [nod_tup, List.map_cons, nod2_arr, nd_no, nod2_imm, List.map_nil, e_x20, e_x21, List.getD_cons_zero, List.getD_cons_succ, nod_imm, Try.underlying29, e_neq, decide_true, Bool.not_true, e_cond, Bool.false_eq_true, if_false, nod_cptr, e_ldcA, lv_cons, List.length_nil, Nat.zero_add, Nat.reduceAdd, true_and, nod_agg, nodL_imm, nodL_arr, nod_arr]; subst hK hQ) | refine Jr.go ?_) | refine sd ?_)
                refine call_of (c27 s n t g k _ _ sm) ?_
                rw [e3, e4]
                generalize rdL s n t g k ((trW s m t g k).map Sd.x) = bl at *
                repeat (first | (with_reducible first | refine Ju.go ?_ | (refine Hd.go ?_; intro K Q hK hQ; simp only [nod_tup, List.map_cons, nod2_ints, nd_no, nod2_imm, List.map_nil, e_x20, e_x21, List.getD_cons_zero]; subst hK hQ) | refine Jr.go ?_) | refine sd ?_)
                refine loop_of (fun i : Nat => i ≤ bl.length) (fun i => [I m, ints bl .no, I 0, B ((bl.take i).any fun y => decide (y = m)), I i]) (fun _ => H ++ [.cells [I m, I t, I g, I k]]) (fun i => bl.length - i) 0 (Nat.zero_le _) rfl rfl ?_
                intro i hi
                repeat (first | (with_reducible first | refine Ju.go ?_ | (refine Hd.go ?_; intro K Q hK hQ; simp only [List.getD_cons_succ, List.getD_cons_zero, nod_ints, nd_no, e_len, nod_imm, Try.underlying3, e_lss, e_cond, decide_eq_true_eq]; subst hK hQ) | refine Jr.go ?_) | refine sd ?_)
                by_cases hlt : i < bl.length
                · have d : (i : Int) < bl.length := by omega
                  have ta : (bl.take (i + 1)).any (fun y => decide (y = m)) = ((bl.take i).any (fun y => decide (y = m)) || decide (bl.getD i 0 = m)) := by rw [take_snocA bl 0 hlt, any_snoc]
                  cases hq : (bl.take i).any fun y => decide (y = m)
                  · rw [hq] at ta
                    repeat (first | (with_reducible first | refine Ju.go ?_ | (refine Hd.go ?_; intro K Q hK hQ; simp only [d, if_true, List.getD_cons_succ, List.getD_cons_zero, nod_imm, nod_ints, nd_no, Try.underlying3, e_ix, Int.toNat_natCast, nod_cptr, e_ldc, e_eql, true_and, e_gF, cond_false, j_side, j_one, e_add]; subst hK hQ) | refine Jr.go ?_) | refine sd ?_)
                    exact ⟨i + 1, by omega, by rw [ta]; rfl, rfl, by omega⟩
                  · rw [hq] at ta
                    repeat (first | (with_reducible first | refine Ju.go ?_ | (refine Hd.go ?_; intro K Q hK hQ; simp only [d, if_true, List.getD_cons_succ, List.getD_cons_zero, nod_imm, nod_ints, nd_no, Try.underlying3, e_ix, Int.toNat_natCast, nod_cptr, e_ldc, e_eql, true_and, e_gF, cond_true, j_one, e_add]; subst hK hQ) | refine Jr.go ?_) | refine sd ?_)
                    exact ⟨i + 1, by omega, by rw [ta]; rfl, rfl, by omega⟩
                · have d : ¬ (i : Int) < bl.length := by omega
                  have ta : (bl.take i).any (fun y => decide (y = m)) = true := by
                    rw [List.take_of_length_le (by omega)]
                    exact List.any_eq_true.2 ⟨m, hmm, decide_eq_true rfl⟩
                  rw [ta]
                  repeat (first | (with_reducible first | refine Ju.go ?_ | (refine Hd.go ?_; intro K Q hK hQ; simp only [d, if_false, List.getD_cons_succ, List.getD_cons_zero, nod_imm, Try.underlying29, e_eql, decide_true, e_gT, cond_true, j_one]; subst hK hQ) | refine Jr.go ?_) | refine sd ?_)
                  refine call_of (c15 _) ?_
                  repeat (first | (with_reducible first | refine Ju.go ?_ | (refine Hd.go ?_; intro K Q hK hQ; simp only [nod_imm]; subst hK hQ) | refine Jr.go ?_) | refine sd ?_)
                  exact end1A (fzI _)
            by_cases hz : rl = []
            · subst hz
              rw [if_pos rfl] at hre
              subst hre
              repeat (first | (with_reducible first | refine Ju.go ?_ | (refine Hd.go ?_; intro K Q hK hQ; simp only [nod_ints, nd_no, e_len, List.length_nil, Int.cast_ofNat_Int, nod_imm, Try.underlying3, e_eql, decide_true, e_cond, if_true, List.getD_cons_succ, List.getD_cons_zero, Try.underlying29, e_neq, Bool.not_true, e_gF, cond_false, j_one, Bool.false_eq_true, if_false]; subst hK hQ) | refine Jr.go ?_) | refine sd ?_)
              exact key
            · rw [if_neg hz] at hre
              subst hre
              have hz2 : ¬ (rl.length : Int) = 0 := by
                have := List.length_pos_iff.2 hz
                omega
              repeat (first | (with_reducible first | refine Ju.go ?_ | (refine Hd.go ?_; intro K Q hK hQ; simp only [nod_ints, nd_no, e_len, nod_imm, Try.underlying3, e_eql, hz2, decide_false, e_cond, Bool.false_eq_true, if_false, List.getD_cons_succ, List.getD_cons_zero, Try.underlying29, e_neq, decide_true, Bool.not_true, e_gF, cond_false]; subst hK hQ) | refine Jr.go ?_) | refine sd ?_)
              refine call_of (c29 rl rl _ (by omega)) ?_
              rw [decide_eq_true rfl]
              repeat (first | (with_reducible first | refine Ju.go ?_ | (refine Hd.go ?_; intro K Q hK hQ; simp only [nod_imm, e_not, Bool.not_true, List.getD_cons_succ, List.getD_cons_zero, e_cond, Bool.false_eq_true, if_false]; subst hK hQ) | refine Jr.go ?_) | refine sd ?_)
              exact key
          · have e1 : rdE s n t g k l = scE [s] n t g k := by unfold rdE; rw [if_pos he]
            have e2 : rdR s n t g k l = [] := by unfold rdR; rw [if_pos he]
            rw [e1, e2]
            repeat (first | (with_reducible first | refine Ju.go ?_ | (refine Hd.go ?_; intro K Q hK hQ; simp only [nod_tup, List.map_cons, nod2_ints, nd_no, nod2_imm, List.map_nil, e_x20, e_x21, List.getD_cons_zero, List.getD_cons_succ, nod_cptr, e_ldcA, lv_cons, List.length_nil, Nat.zero_add, Nat.reduceAdd, true_and, nod_agg, nodL_imm, nodL_arr]; subst hK hQ) | refine Jr.go ?_) | refine sd ?_)
            refine call_of (c22 s n t g k true _ sm) ?_
            rw [e]
            repeat (first | (with_reducible first | refine Ju.go ?_ | (refine Hd.go ?_; intro K Q hK hQ; simp only [nod_imm, Try.underlying29, e_neq, he, decide_false, Bool.not_false, e_cond, if_true, List.getD_cons_succ, List.getD_cons_zero, e_eql, decide_true, nod_ints, nd_no, Try.underlying3, e_len, List.length_nil, Int.cast_ofNat_Int, e_gT, cond_true, j_one]; subst hK hQ) | refine Jr.go ?_) | refine sd ?_)
            refine call_of (c15 _) ?_
            repeat (first | (with_reducible first | refine Ju.go ?_ | (refine Hd.go ?_; intro K Q hK hQ; simp only [nod_imm]; subst hK hQ) | refine Jr.go ?_) | refine sd ?_)
            exact end1 (fzI _)
end Go.Proofs.Ytgodfjbmblghnaa


set_option linter.unusedVariables false
set_option linter.unusedSimpArgs false
set_option linter.unnecessarySimpa false
set_option maxRecDepth 20000
set_option maxHeartbeats 2000000
namespace Go.Proofs.Ytgodfjbmblghnaa
open Go Go.Ab Go.Proofs
attribute [local congr] g_bin g_nilS g_nilP g_un g_ext g_bx g_fa g_ld g_st g_ix g_ixA g_slc g_mk g_bs g_bd g_nc g_cv g_len g_lenT g_app g_appB g_cpy g_mm g_call g_callG g_calm g_calmG g_range g_res g_pick g_cond g_loop g_Jv g_eqS g_eqP g_fd g_ixT g_ta g_lkp g_upd g_mkM g_appS g_inv g_callE g_callEG g_invE g_zr g_wr
open Go.ChangeShapes Go.WideShapes Go.ChangeAt Go.RowKit
theorem own : ownKnob Try.prog.godebug = none := by kernel_rfl
theorem laidOut : laidOutB Try.prog = true := by kernel_rfl
set_option maxRecDepth 100000 in
theorem lifted (os : Os) (started : os.Started) (H : Type) (enc : TypeId × Value → H) :
    ReturnsInHanded {} Try.checked os 6 .any (Rows.numeralReadsSpec.pre6 enc Try.prog Try.f6 Rows.numeralReadsRow.domain false) (Rows.numeralReadsSpec.post enc Try.prog Try.f6 false true false false) := by
  refine returnsInHanded_of_change (C := Try.checked) own started (by kernel_rfl) Try.func6
    (ChangeSpec.witness6 (enc := enc) (C := Try.checked) false ⟨#[], #[.agg #[.int .i64 0, .int .i64 0, .int .i64 0, .int .i64 0, .slice none 0 0, .slice none 0 0, .slice none 0 0], .agg #[.int .i64 0, .int .i64 0, .int .i64 0, .int .i64 0], .slice none 0 0, .int .i64 0], []⟩ 8 (by kernel_rfl) (by kernel_rfl) (by kernel_rfl) (by kernel_rfl)) ?_
  intro W base args ds gs before hval0 hW hcnd _
  have hval : ∀ (j : Nat) t v, Try.f6.params[j]? = some t → args[j]? = some v → Value.okWide Try.prog W .any base t v := hval0
  have hW' := hW
  obtain ⟨p, q, hA0, hV, rfl, hfz, hnd⟩ := hW
  have hA : DataW.TrodAll enc Try.prog W 0 (fun _ => true) true Try.f6.params.toList args.toList ds p := hA0
  rw [Try.params6] at hA hval
  obtain ⟨v0, vs0, d0, ds0, p0, q0, hargs, rfl, rfl, h0, r0⟩ := trodAll_cons hA
  obtain ⟨v1, vs1, d1, ds1, p1, q1, rfl, rfl, rfl, h1, r1⟩ := trodAll_cons r0
  obtain ⟨v2, vs2, d2, ds2, p2, q2, rfl, rfl, rfl, h2, r2⟩ := trodAll_cons r1
  obtain ⟨v3, vs3, d3, ds3, p3, q3, rfl, rfl, rfl, h3, r3⟩ := trodAll_cons r2
  obtain ⟨rfl, rfl, rfl⟩ := trodAll_nil r3
  obtain rfl : args = #[v0, v1, v2, v3] := by cases args; simp_all
  obtain ⟨rfl, rfl⟩ := trodVars_none hV
  have lt0 : ∀ x ∈ p0, x.block < W.heap.size := by obtain ⟨m, hm⟩ := h0; exact DataW.trod_lt m _ _ _ hm
  obtain ⟨l0, w0, e0⟩ := in_sys (hval 0 _ v0 rfl rfl) h0
  have lt1 : ∀ x ∈ p1, x.block < W.heap.size := by obtain ⟨m, hm⟩ := h1; exact DataW.trod_lt m _ _ _ hm
  obtain ⟨n1, t1, g1, k1, e1⟩ := in_ask (hval 1 _ v1 rfl rfl) h1
  have lt2 : ∀ x ∈ p2, x.block < W.heap.size := by obtain ⟨m, hm⟩ := h2; exact DataW.trod_lt m _ _ _ hm
  obtain ⟨l2, w2, x2, e2⟩ := in_words (hval 2 _ v2 rfl rfl) h2
  have lt3 : ∀ x ∈ p3, x.block < W.heap.size := by obtain ⟨m, hm⟩ := h3; exact DataW.trod_lt m _ _ _ hm
  obtain ⟨n3, e3, w3⟩ := in_int Try.underlying3 (hval 3 _ v3 rfl rfl) h3
  clear hA0 hval0
  refine (bridge (args := [syV l0, asV n1 t1 g1 k1, .arr (l2.map tb) .no, I n3]) (ra := #[v0, v1, v2, v3]) (c6 l0 n1 t1 g1 k1 l2 n3 [] w0 w2 x2) rfl (by intro a ha; simp at ha; rcases ha with rfl | rfl | rfl | rfl <;> rfl) (fun i => ?_)).mono fun e W' ⟨he, bel⟩ => ?_
  · match i with
    | 0 => exact e0
    | 1 => exact e1
    | 2 => exact e2
    | 3 => exact e3
    | i + 4 => exact .junk _
  · subst he
    exact ⟨_, rfl, _, _, _, [], _, [], hW', trodAll_mk1 (shut_bool Try.underlying4 _), (trodAll_cons_mk (Below.trod laidOut (by kernel_rfl) (of_decide_eq_true (by kernel_rfl)) h0 bel lt0) (trodAll_cons_mk (Below.trod laidOut (by kernel_rfl) (of_decide_eq_true (by kernel_rfl)) h1 bel lt1) (trodAll_cons_mk (Below.trod laidOut (by kernel_rfl) (of_decide_eq_true (by kernel_rfl)) h2 bel lt2) (trodAll_cons_mk (Below.trod laidOut (by kernel_rfl) (of_decide_eq_true (by kernel_rfl)) h3 bel lt3) trodAll_mk0)))), rfl, bel.frame _, fun h => by cases h⟩
theorem over : Rows.numeralReadsRow.holds Try.pinned (OpenSpec.ofChange Rows.numeralReadsSpec) :=
  OpenClaim.holds_of_wide 6 Try.f6 rfl rfl rfl rfl rfl rfl rfl ⟨rfl, rfl, rfl, rfl, rfl⟩ rfl rfl rfl rfl rfl (by kernel_rfl) Try.func6 (by kernel_rfl)
    (of_decide_eq_true (by kernel_rfl)) (by unfold Func.isWrapper; first | (rw [if_pos (by decide +kernel)]; kernel_rfl) | (rw [if_neg (by decide +kernel)]; exact ⟨rfl, rfl⟩))
    (fun os started H enc _ => lifted os started H enc)
theorem numeralReads_holds : Rows.NumeralReadsSaid := over
#print axioms numeralReads_holds
end Go.Proofs.Ytgodfjbmblghnaa

