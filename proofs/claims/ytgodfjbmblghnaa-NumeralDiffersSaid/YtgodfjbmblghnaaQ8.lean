/- NumeralDiffers: which numbers have different words in two systems, and what is refused; no condition. -/
import Derived.Test.YtgodfjbmblghnaaR6
import Derived.Test.YtgodfjbmblghnaaProg
import Derived.Test.YtgodfjbmblghnaaRows
set_option linter.unusedVariables false
set_option maxRecDepth 20000
set_option maxHeartbeats 4000000
namespace Go.Proofs.Ytgodfjbmblghnaa
open Go Go.Ab Go.Proofs
def an8 : An := { imm := [3, 4, 5], jn := [(2, [3, 4, 5, 28]), (5, [3, 4, 5, 7, 8, 9]), (7, [3, 4, 5, 7, 8, 9, 10, 48]), (8, [3, 4, 5, 7, 8, 9]), (10, [3, 4, 5, 7, 8])], lp := [], loud := [], ord := [] }
def vc8 (C : Cb) (a0 a1 a2 : V) (H : Hp) (R : List V → Hp → Prop) : Prop :=
 C.aBx true 7 a0.nod H fun v1 H2 =>
 C.aBx true 7 a1.nod H2 fun v3 H4 =>
 C.aBx true 4 a2.nod H4 fun v5 H6 =>
 Jn (fun l7 H8 =>
 aCond (l7.getD 3 .junk).nod (
 C.callE 15 [] H8 fun v10 H11 =>
 R [v10] H11) (
 C.aLd 7 true false (l7.getD 0 .junk).nod H8 fun v12 H13 =>
 C.aLd 7 true false (l7.getD 1 .junk).nod H13 fun v14 H15 =>
 C.aLd 4 true false (l7.getD 2 .junk).nod H15 fun v16 H17 =>
 C.callE 30 [v12.nod, v14.nod, v16.nod] H17 fun v18 H19 =>
 C.aExt 0 v18.nod.nod fun v20 =>
 C.aExt 1 v18.nod.nod fun v21 =>
 Jn (fun l22 H23 =>
 Jn (fun l25 H26 =>
 Jn (fun l28 H29 =>
 C.aBin (Try.prog.underlying 29) .eql (l28.getD 4 .junk).nod.nod (I 0) fun v31 =>
 Jv (fun v32 H33 =>
 Jv (fun v45 H46 =>
 R [v45] H46)
 (fun R47 =>
 aG v32.nod true (
 C.callE 15 [] H33 fun v48 H49 =>
 R47 v48.nod H49) (
 R47 (B false) H33)))
 (fun R34 =>
 aG v31.nod true (
 C.aLd 7 true false (l28.getD 0 .junk).nod H29 fun v35 H36 =>
 C.aLd 7 true false (l28.getD 1 .junk).nod H36 fun v37 H38 =>
 C.aLd 4 true false (l28.getD 2 .junk).nod H38 fun v39 H40 =>
 C.callE 31 [v35.nod, v37.nod, v39.nod] H40 fun v41 H42 =>
 C.callE 29 [(l28.getD 3 .junk).nod.nod, v41.nod] H42 fun v43 H44 =>
 R34 v43.nod H44) (
 R34 (B false) H29)))
 (fun R30 =>
 C.aBin (Try.prog.underlying 29) .neq (l25.getD 5 .junk).nod.nod (I 0) fun v50 =>
 aCond v50.nod (
 C.aBin (Try.prog.underlying 29) .eql (l25.getD 4 .junk).nod.nod (l25.getD 5 .junk).nod.nod fun v51 =>
 Jv (fun v52 H53 =>
 Jv (fun v57 H58 =>
 R [v57] H58)
 (fun R59 =>
 aG v52.nod true (
 C.callE 15 [] H53 fun v60 H61 =>
 R59 v60.nod H61) (
 R59 (B false) H53)))
 (fun R54 =>
 aG v51.nod true (
 C.aLen (l25.getD 3 .junk).nod.nod fun v55 =>
 C.aBin (Try.prog.underlying 3) .eql v55.nod (I 0) fun v56 =>
 R54 v56.nod H26) (
 R54 (B false) H26))) (
 R30 [(l25.getD 0 .junk), (l25.getD 1 .junk), (l25.getD 2 .junk), (l25.getD 3 .junk), (l25.getD 4 .junk)] H26)))
 (fun R27 =>
 C.aLd 7 true false (l22.getD 1 .junk).nod H23 fun v62 H63 =>
 C.aLd 4 true false (l22.getD 2 .junk).nod H63 fun v64 H65 =>
 C.callE 22 [v62.nod, v64.nod, (B true)] H65 fun v66 H67 =>
 Jn (fun l68 H69 =>
 aCond (l68.getD 7 .junk).nod (
 R27 [(l68.getD 0 .junk), (l68.getD 1 .junk), (l68.getD 2 .junk), (l68.getD 3 .junk), (l68.getD 4 .junk), (l68.getD 6 .junk).nod] H69) (
 R27 [(l68.getD 0 .junk), (l68.getD 1 .junk), (l68.getD 2 .junk), (l68.getD 3 .junk), (l68.getD 4 .junk), (l68.getD 5 .junk)] H69))
 (fun R70 =>
 C.aBin (Try.prog.underlying 29) .neq (l22.getD 5 .junk).nod.nod (I 2) fun v71 =>
 Jv (fun v72 H73 =>
 R70 [(l22.getD 0 .junk), (l22.getD 1 .junk), (l22.getD 2 .junk), (l22.getD 3 .junk), (l22.getD 4 .junk), (l22.getD 5 .junk), v66, v72] H73)
 (fun R74 =>
 aG v71.nod true (
 C.aBin (Try.prog.underlying 29) .neq v66.nod.nod (I 0) fun v75 =>
 R74 v75.nod H67) (
 R74 (B false) H67)))))
 (fun R24 =>
 C.aLd 7 true false (l7.getD 0 .junk).nod H19 fun v76 H77 =>
 C.aLd 4 true false (l7.getD 2 .junk).nod H77 fun v78 H79 =>
 C.callE 22 [v76.nod, v78.nod, (B true)] H79 fun v80 H81 =>
 R24 [(l7.getD 0 .junk), (l7.getD 1 .junk), (l7.getD 2 .junk), v20, v21, v80] H81)))
 (fun R9 =>
 C.aLd 7 true false v1.nod H6 fun v82 H83 =>
 C.callE 14 [v82.nod] H83 fun v84 H85 =>
 C.aUn .not v84.nod fun v86 =>
 Jv (fun v87 H88 =>
 Jv (fun v95 H96 =>
 R9 [v1, v3, v5, v95] H96)
 (fun R97 =>
 aG v87.nod false (
 C.aFA 0 1 false v5.nod fun v98 =>
 C.aLd 1 false false v98.nod H88 fun v99 H100 =>
 C.aBin (Try.prog.underlying 3) .gtr v99.nod (I 200) fun v101 =>
 aG v101.nod true (
 C.aFA 0 1 false v5.nod fun v102 =>
 C.aLd 1 false false v102.nod H100 fun v103 H104 =>
 C.aBin (Try.prog.underlying 3) .leq v103.nod (I 20000) fun v105 =>
 R97 v105.nod.nod H104) (
 R97 (B false) H100)) (
 UD = UD ∧
 UD = UD ∧
 UD = UD ∧
 R97 (B true) H88)))
 (fun R89 =>
 aG v86.nod false (
 C.aLd 7 true false v3.nod H85 fun v90 H91 =>
 C.callE 14 [v90.nod] H91 fun v92 H93 =>
 C.aUn .not v92.nod fun v94 =>
 R89 v94.nod H93) (
 R89 (B true) H85)))
theorem wf8 : (Nat.ble 3 Try.f8.ntmps && wfC an8 Try.f8.ntmps (Try.f8.body.getD .skip)) = true := by kernel_rfl
theorem tie8 (C : Cb) (a0 a1 a2 : V) (H : Hp) (R : List V → Hp → Prop) : wpG Try.prog C an8 (Try.f8.body.getD .skip) (argF [a0, a1, a2]) H (retG Try.prog C Try.f8 R) (fun _ _ _ => False) (retG Try.prog C Try.f8 R) = vc8 C a0 a1 a2 H R := by kernel_rfl
theorem mk8 (a0 a1 a2 : V) {H : Hp} {v : V} {H1 : Hp} (hd : v.Nd) (hn : H.length ≤ H1.length) (hb : H1 = H ∨ ∀ (b : Nat) (blk : Blk), H1[b]? = some blk → H[b]? = some blk ∨ BelB H1.length blk) (h : vc8 (real Try.prog) a0 a1 a2 H (retF v H1)) : Ret Try.prog 8 [a0, a1, a2] H v H1 :=
  ret_mk (an := an8) hm Try.call8 Try.func8 rfl wf8 hd hn hb (Eq.mpr (tie8 (real Try.prog) a0 a1 a2 H (retF v H1)) h)
theorem mkE8 (a0 a1 a2 : V) {H : Hp} {Q : V → Hp → Prop} (h : vc8 (real Try.prog) a0 a1 a2 H (retW Q)) : RetE Try.prog 8 [a0, a1, a2] H Q :=
  retE_mk (an := an8) hm Try.call8 Try.func8 rfl wf8 (Eq.mpr (tie8 (real Try.prog) a0 a1 a2 H (retW Q)) h)
theorem mko8 (a0 a1 a2 : V) {H : Hp} {xs : List V} {H1 : Hp} (hn : H.length ≤ H1.length) (hb : H1 = H ∨ ∀ (b : Nat) (blk : Blk), H1[b]? = some blk → H[b]? = some blk ∨ BelB H1.length blk) (h : vc8 (real Try.prog) a0 a1 a2 H (retO xs H1)) : Ret Try.prog 8 [a0, a1, a2] H (.arr xs .own) H1 :=
  ret_mko (an := an8) (t := 6) hm Try.call8 Try.func8 rfl wf8 rfl hn hb (Eq.mpr (tie8 (real Try.prog) a0 a1 a2 H (retO xs H1)) h)
end Go.Proofs.Ytgodfjbmblghnaa


set_option linter.unusedVariables false
set_option linter.unusedSimpArgs false
set_option linter.unnecessarySimpa false
set_option maxRecDepth 20000
set_option maxHeartbeats 2000000
namespace Go.Proofs.Ytgodfjbmblghnaa
open Go Go.Ab Go.Proofs
attribute [local congr] g_bin g_nilS g_nilP g_un g_ext g_bx g_fa g_ld g_st g_ix g_ixA g_slc g_mk g_bs g_bd g_nc g_cv g_len g_lenT g_app g_appB g_cpy g_mm g_call g_callG g_calm g_calmG g_range g_res g_pick g_cond g_loop g_Jv g_eqS g_eqP g_fd g_ixT g_ta g_lkp g_upd g_mkM g_appS g_inv g_callE g_callEG g_invE g_zr g_wr
theorem c8 (s u : Sy) (n t g k : Int) (H : Hp) (sm : Sm s) (su : Sm u) : Ret Try.prog 8 [syV s, syV u, asV n t g k] H (B true) H := by
  refine mk8 _ _ _ rfl (Nat.le_refl _) (.inl rfl) ?_
  simp only [vc8, real]
  repeat (first | (with_reducible first | refine Ju.go ?_ | (refine Hd.go ?_; intro K Q hK hQ; simp only [nod_agg, List.map_cons, nodL_imm, nodL_arr, nd_no, List.map_nil, e_bxI, okE_agg, lv_cons, List.length_nil, Nat.zero_add, Nat.reduceAdd, all_c, ck_I, ck_arr, all_n, Bool.and_self, and_true, true_and, nod_cptr, e_ldcA]; subst hK hQ) | refine Jr.go ?_) | refine sd ?_)
  refine callE_of (c14 s H sm) fun v H1 ⟨hH, b, hv⟩ => ?_
  replace hH := hH.symm
  subst hv hH
  cases b
  · repeat (first | (with_reducible first | refine Ju.go ?_ | (refine Hd.go ?_; intro K Q hK hQ; simp only [nod_imm, e_not, Bool.not_false, nod_cptr, e_ldcA, lv_cons, List.length_nil, Nat.zero_add, Nat.reduceAdd, nod_agg, List.map_cons, nodL_imm, nodL_arr, nd_no, List.map_nil, true_and, e_gF, cond_true, j_one, Try.underlying3, nod_nod, e_fac, Nat.reduceLeDiff, List.getD_cons_zero, e_ldc, e_leq, e_gtr, e_gT, j_and', List.getD_cons_succ, e_cond, if_true]; subst hK hQ) | refine Jr.go ?_) | refine sd ?_)
    refine call_of (c15 _) ?_
    repeat (first | (with_reducible first | refine Ju.go ?_ | (refine Hd.go ?_; intro K Q hK hQ; simp only [Try.underlying3, Try.underlying4, Try.underlying5, Try.underlying9, Try.underlying29, Try.underlying57, Try.underlying55, j_one, j_side, j_tl, j_fl, nod_nod, nod_imm, nod_ints, nd_no, nd_own, nd_full, nd_fO, oF_ap, oF_succ, nod_sl, nod_ptr, nod_cptr, nod_fn, nod_junk, nodL_imm, nod_agg, nod_tup, nod2_imm, nod2_agg, cl_imm, cl_ints, cl_agg, e_add, e_sub, e_mul, e_quo, e_rem, e_eql, e_neq, e_lss, e_leq, e_gtr, e_geq, e_beq, e_bne, e_neg, e_not, e_pick, e_cond, e_gT, e_gF, e_len, e_lenA, e_lenS, e_ix, e_ixS, e_ldc, e_ldci, e_fa, rep_cl, rep_I, e_bx, okE_I, okE_B, okE_E8, okE_ints, stV_imm, stV_ints, j_and', j_or', List.getD_cons_zero, List.getD_cons_succ, List.map_cons, List.map_nil, decide_eq_true_eq, Int.toNat_natCast, Nat.mul_one, Nat.zero_add, true_and, and_true, List.length_map, Bool.not_eq_true', decide_eq_false_iff_not, nod_lists, e_lenL, e_ixL, okE_lists, bs1, bs1L, bs2L, e_app, e_appL, e_app0, e_app0L, e_slcLo, e_slcHi, e_slcLH, e_slcHH, e_slcLHH, e_callG, e_callY, e_calmG, e_slS0, e_slSLo, e_slSHi, e_slSLH, e_slSHH, e_slSLHH, e_max2, e_min2, e_max3, e_x20, e_x21, e_x30, e_x31, e_x32, nod2_ints, nod2_lists, rep_fl, bs0, e_nilE, if_true, if_false, cond_true, cond_false, decide_true, decide_false, eq_self, Bool.false_eq_true, false_implies, true_implies, ap_own, ap_full, e_slcLoL, e_slcHiL, e_slcLHL, hp_assoc, hp_cons, hp_nil, hp_len, hp_len_cons, hp_len_nil, lv_cons, lv_nil, vs_0, vs_s, spl_s, spl_0, spl_n, dr_s, dr_0, tk_s, tk_0, e_bxI, e_fac, e_facA, e_ldcA, e_ldcL, e_ldcF, okE_agg, ck_I, ck_B, ck_ints, ck_lists, ck_arr, ck_ptr, ck_cptr, ck_fn, all_c, all_n, stV_agg, stV_lists, stV_arr, stV_ptr, stV_cptr, stV_fn, nodL_ints, nodL_lists, nodL_ptr, nodL_cptr, nodL_fn, nodL_arr0, cl_arr, cl_ptr, cl_cptr, cl_fn, cl_lists, okE_arr, okE_fn, okE_ptr, okE_cptr, e_bd0, e_bd1, e_wr, Nat.reduceAdd, Nat.reduceLeDiff, Nat.reduceEqDiff, Nat.add_zero, Bool.and_self, Bool.true_and, Bool.and_true, e_lc0, e_lA0, e_lM0, e_sc0, e_rc0, e_rA0, e_lI0, e_sI0, e_cI0, e_lc1, e_lA1, e_lM1, e_sc1, e_rc1, e_rA1, e_lI1, e_sI1, e_cI1, e_lc2, e_lA2, e_lM2, e_sc2, e_rc2, e_rA2, e_lI2, e_sI2, e_cI2, e_lc3, e_lA3, e_lM3, e_sc3, e_rc3, e_rA3, e_lI3, e_sI3, e_cI3, e_lc4, e_lA4, e_lM4, e_sc4, e_rc4, e_rA4, e_lI4, e_sI4, e_cI4, e_lc5, e_lA5, e_lM5, e_sc5, e_rc5, e_rA5, e_lI5, e_sI5, e_cI5, own0_arr, own0_ints, own0_lists, own0_imm, own0_ptr, own0_cptr, own0_fn, own0_agg, e_appB, e_appB0, ck_sl, own0_sl, stV_sl, nodL_sl, cl_sl, okE_sl, e_mkM, e_mkI, e_mkIm, e_callB, nod_bfn, nod_ifc, nod_map, nodL_ifc, nodL_bfn, nodL_map, cl_ifc, cl_bfn, ck_ifc, ck_bfn, ck_map, stV_ifc, okE_ifc, okE_bfn, nod_arr, nodL_arr, e_addU, e_mulU, e_shrK, e_shlK, e_andK, e_cv64, e_cv32, e_callEG, e_callEY, e_callEB, e_zr, e_nilSl, e_ncP, e_ncC, e_npnP, e_npeP, e_npnC, e_npeC, e_npnN, e_npeN, e_ixAP, e_ldcP, e_ldcS, e_ldcV, e_ldcT, okE_nilP, ck_nilP, okE_nilI, ck_nilI, okE_str, ck_str, e_tlen, e_tix, e_teq, e_tne, e_tadd, e_tb, e_u8lss, e_u8gtr, noV_full, nod_arr, List.length_map, reduceIte, Int.reduceEq, Int.reduceNeg, ne_eq, not_true_eq_false, not_false_eq_true, Bool.not_true, Bool.not_false, Bool.true_or, Bool.or_true, Bool.false_or, Bool.or_false, Bool.and_true, Bool.and_false, Bool.false_and, Bool.not_not, Bool.or_self, List.length_nil, Int.ofNat_zero, Int.cast_ofNat_Int, Int.natCast_zero, beq_self_eq_true, Bool.true_eq_false]; subst hK hQ) | refine Jr.go ?_) | refine sd ?_)
    exact end1 (fzI _)
  · repeat (first | (with_reducible first | refine Ju.go ?_ | (refine Hd.go ?_; intro K Q hK hQ; simp only [nod_imm, e_not, Bool.not_true, nod_cptr, e_ldcA, lv_cons, List.length_nil, Nat.zero_add, Nat.reduceAdd, nod_agg, List.map_cons, nodL_imm, nodL_arr, nd_no, List.map_nil, true_and, e_gF, cond_false]; subst hK hQ) | refine Jr.go ?_) | refine sd ?_)
    refine callE_of (c14 u _ su) fun v H1 ⟨hH, b, hv⟩ => ?_
    replace hH := hH.symm
    subst hv hH
    cases b
    · repeat (first | (with_reducible first | refine Ju.go ?_ | (refine Hd.go ?_; intro K Q hK hQ; simp only [nod_imm, e_not, Bool.not_false, nod_cptr, Try.underlying3, nod_nod, e_fac, Nat.zero_add, lv_cons, List.length_nil, Nat.reduceAdd, Nat.reduceLeDiff, List.getD_cons_zero, e_ldc, e_leq, true_and, e_gtr, e_gT, j_and', e_gF, cond_true, j_one, List.getD_cons_succ, e_cond, if_true]; subst hK hQ) | refine Jr.go ?_) | refine sd ?_)
      refine call_of (c15 _) ?_
      repeat (first | (with_reducible first | refine Ju.go ?_ | (refine Hd.go ?_; intro K Q hK hQ; simp only [Try.underlying3, Try.underlying4, Try.underlying5, Try.underlying9, Try.underlying29, Try.underlying57, Try.underlying55, j_one, j_side, j_tl, j_fl, nod_nod, nod_imm, nod_ints, nd_no, nd_own, nd_full, nd_fO, oF_ap, oF_succ, nod_sl, nod_ptr, nod_cptr, nod_fn, nod_junk, nodL_imm, nod_agg, nod_tup, nod2_imm, nod2_agg, cl_imm, cl_ints, cl_agg, e_add, e_sub, e_mul, e_quo, e_rem, e_eql, e_neq, e_lss, e_leq, e_gtr, e_geq, e_beq, e_bne, e_neg, e_not, e_pick, e_cond, e_gT, e_gF, e_len, e_lenA, e_lenS, e_ix, e_ixS, e_ldc, e_ldci, e_fa, rep_cl, rep_I, e_bx, okE_I, okE_B, okE_E8, okE_ints, stV_imm, stV_ints, j_and', j_or', List.getD_cons_zero, List.getD_cons_succ, List.map_cons, List.map_nil, decide_eq_true_eq, Int.toNat_natCast, Nat.mul_one, Nat.zero_add, true_and, and_true, List.length_map, Bool.not_eq_true', decide_eq_false_iff_not, nod_lists, e_lenL, e_ixL, okE_lists, bs1, bs1L, bs2L, e_app, e_appL, e_app0, e_app0L, e_slcLo, e_slcHi, e_slcLH, e_slcHH, e_slcLHH, e_callG, e_callY, e_calmG, e_slS0, e_slSLo, e_slSHi, e_slSLH, e_slSHH, e_slSLHH, e_max2, e_min2, e_max3, e_x20, e_x21, e_x30, e_x31, e_x32, nod2_ints, nod2_lists, rep_fl, bs0, e_nilE, if_true, if_false, cond_true, cond_false, decide_true, decide_false, eq_self, Bool.false_eq_true, false_implies, true_implies, ap_own, ap_full, e_slcLoL, e_slcHiL, e_slcLHL, hp_assoc, hp_cons, hp_nil, hp_len, hp_len_cons, hp_len_nil, lv_cons, lv_nil, vs_0, vs_s, spl_s, spl_0, spl_n, dr_s, dr_0, tk_s, tk_0, e_bxI, e_fac, e_facA, e_ldcA, e_ldcL, e_ldcF, okE_agg, ck_I, ck_B, ck_ints, ck_lists, ck_arr, ck_ptr, ck_cptr, ck_fn, all_c, all_n, stV_agg, stV_lists, stV_arr, stV_ptr, stV_cptr, stV_fn, nodL_ints, nodL_lists, nodL_ptr, nodL_cptr, nodL_fn, nodL_arr0, cl_arr, cl_ptr, cl_cptr, cl_fn, cl_lists, okE_arr, okE_fn, okE_ptr, okE_cptr, e_bd0, e_bd1, e_wr, Nat.reduceAdd, Nat.reduceLeDiff, Nat.reduceEqDiff, Nat.add_zero, Bool.and_self, Bool.true_and, Bool.and_true, e_lc0, e_lA0, e_lM0, e_sc0, e_rc0, e_rA0, e_lI0, e_sI0, e_cI0, e_lc1, e_lA1, e_lM1, e_sc1, e_rc1, e_rA1, e_lI1, e_sI1, e_cI1, e_lc2, e_lA2, e_lM2, e_sc2, e_rc2, e_rA2, e_lI2, e_sI2, e_cI2, e_lc3, e_lA3, e_lM3, e_sc3, e_rc3, e_rA3, e_lI3, e_sI3, e_cI3, e_lc4, e_lA4, e_lM4, e_sc4, e_rc4, e_rA4, e_lI4, e_sI4, e_cI4, e_lc5, e_lA5, e_lM5, e_sc5, e_rc5, e_rA5, e_lI5, e_sI5, e_cI5, own0_arr, own0_ints, own0_lists, own0_imm, own0_ptr, own0_cptr, own0_fn, own0_agg, e_appB, e_appB0, ck_sl, own0_sl, stV_sl, nodL_sl, cl_sl, okE_sl, e_mkM, e_mkI, e_mkIm, e_callB, nod_bfn, nod_ifc, nod_map, nodL_ifc, nodL_bfn, nodL_map, cl_ifc, cl_bfn, ck_ifc, ck_bfn, ck_map, stV_ifc, okE_ifc, okE_bfn, nod_arr, nodL_arr, e_addU, e_mulU, e_shrK, e_shlK, e_andK, e_cv64, e_cv32, e_callEG, e_callEY, e_callEB, e_zr, e_nilSl, e_ncP, e_ncC, e_npnP, e_npeP, e_npnC, e_npeC, e_npnN, e_npeN, e_ixAP, e_ldcP, e_ldcS, e_ldcV, e_ldcT, okE_nilP, ck_nilP, okE_nilI, ck_nilI, okE_str, ck_str, e_tlen, e_tix, e_teq, e_tne, e_tadd, e_tb, e_u8lss, e_u8gtr, noV_full, nod_arr, List.length_map, reduceIte, Int.reduceEq, Int.reduceNeg, ne_eq, not_true_eq_false, not_false_eq_true, Bool.not_true, Bool.not_false, Bool.true_or, Bool.or_true, Bool.false_or, Bool.or_false, Bool.and_true, Bool.and_false, Bool.false_and, Bool.not_not, Bool.or_self, List.length_nil, Int.ofNat_zero, Int.cast_ofNat_Int, Int.natCast_zero, beq_self_eq_true, Bool.true_eq_false]; subst hK hQ) | refine Jr.go ?_) | refine sd ?_)
      exact end1 (fzI _)
    · by_cases h3 : (decide (200 < n) && decide (n ≤ 20000)) = true
      · rw [Bool.and_eq_true, decide_eq_true_eq, decide_eq_true_eq] at h3
        obtain ⟨h3, h4⟩ := h3
        repeat (first | (with_reducible first | refine Ju.go ?_ | (refine Hd.go ?_; intro K Q hK hQ; simp only [nod_imm, e_not, Bool.not_true, nod_cptr, Try.underlying3, nod_nod, e_fac, Nat.zero_add, lv_cons, List.length_nil, Nat.reduceAdd, Nat.reduceLeDiff, List.getD_cons_zero, e_ldc, e_leq, h4, decide_true, true_and, e_gtr, h3, e_gT, cond_true, e_gF, cond_false, j_one, List.getD_cons_succ, e_cond, if_true]; subst hK hQ) | refine Jr.go ?_) | refine sd ?_)
        refine call_of (c15 _) ?_
        repeat (first | (with_reducible first | refine Ju.go ?_ | (refine Hd.go ?_; intro K Q hK hQ; simp only [Try.underlying3, Try.underlying4, Try.underlying5, Try.underlying9, Try.underlying29, Try.underlying57, Try.underlying55, j_one, j_side, j_tl, j_fl, nod_nod, nod_imm, nod_ints, nd_no, nd_own, nd_full, nd_fO, oF_ap, oF_succ, nod_sl, nod_ptr, nod_cptr, nod_fn, nod_junk, nodL_imm, nod_agg, nod_tup, nod2_imm, nod2_agg, cl_imm, cl_ints, cl_agg, e_add, e_sub, e_mul, e_quo, e_rem, e_eql, e_neq, e_lss, e_leq, e_gtr, e_geq, e_beq, e_bne, e_neg, e_not, e_pick, e_cond, e_gT, e_gF, e_len, e_lenA, e_lenS, e_ix, e_ixS, e_ldc, e_ldci, e_fa, rep_cl, rep_I, e_bx, okE_I, okE_B, okE_E8, okE_ints, stV_imm, stV_ints, j_and', j_or', List.getD_cons_zero, List.getD_cons_succ, List.map_cons, List.map_nil, decide_eq_true_eq, Int.toNat_natCast, Nat.mul_one, Nat.zero_add, true_and, and_true, List.length_map, Bool.not_eq_true', decide_eq_false_iff_not, nod_lists, e_lenL, e_ixL, okE_lists, bs1, bs1L, bs2L, e_app, e_appL, e_app0, e_app0L, e_slcLo, e_slcHi, e_slcLH, e_slcHH, e_slcLHH, e_callG, e_callY, e_calmG, e_slS0, e_slSLo, e_slSHi, e_slSLH, e_slSHH, e_slSLHH, e_max2, e_min2, e_max3, e_x20, e_x21, e_x30, e_x31, e_x32, nod2_ints, nod2_lists, rep_fl, bs0, e_nilE, if_true, if_false, cond_true, cond_false, decide_true, decide_false, eq_self, Bool.false_eq_true, false_implies, true_implies, ap_own, ap_full, e_slcLoL, e_slcHiL, e_slcLHL, hp_assoc, hp_cons, hp_nil, hp_len, hp_len_cons, hp_len_nil, lv_cons, lv_nil, vs_0, vs_s, spl_s, spl_0, spl_n, dr_s, dr_0, tk_s, tk_0, e_bxI, e_fac, e_facA, e_ldcA, e_ldcL, e_ldcF, okE_agg, ck_I, ck_B, ck_ints, ck_lists, ck_arr, ck_ptr, ck_cptr, ck_fn, all_c, all_n, stV_agg, stV_lists, stV_arr, stV_ptr, stV_cptr, stV_fn, nodL_ints, nodL_lists, nodL_ptr, nodL_cptr, nodL_fn, nodL_arr0, cl_arr, cl_ptr, cl_cptr, cl_fn, cl_lists, okE_arr, okE_fn, okE_ptr, okE_cptr, e_bd0, e_bd1, e_wr, Nat.reduceAdd, Nat.reduceLeDiff, Nat.reduceEqDiff, Nat.add_zero, Bool.and_self, Bool.true_and, Bool.and_true, e_lc0, e_lA0, e_lM0, e_sc0, e_rc0, e_rA0, e_lI0, e_sI0, e_cI0, e_lc1, e_lA1, e_lM1, e_sc1, e_rc1, e_rA1, e_lI1, e_sI1, e_cI1, e_lc2, e_lA2, e_lM2, e_sc2, e_rc2, e_rA2, e_lI2, e_sI2, e_cI2, e_lc3, e_lA3, e_lM3, e_sc3, e_rc3, e_rA3, e_lI3, e_sI3, e_cI3, e_lc4, e_lA4, e_lM4, e_sc4, e_rc4, e_rA4, e_lI4, e_sI4, e_cI4, e_lc5, e_lA5, e_lM5, e_sc5, e_rc5, e_rA5, e_lI5, e_sI5, e_cI5, own0_arr, own0_ints, own0_lists, own0_imm, own0_ptr, own0_cptr, own0_fn, own0_agg, e_appB, e_appB0, ck_sl, own0_sl, stV_sl, nodL_sl, cl_sl, okE_sl, e_mkM, e_mkI, e_mkIm, e_callB, nod_bfn, nod_ifc, nod_map, nodL_ifc, nodL_bfn, nodL_map, cl_ifc, cl_bfn, ck_ifc, ck_bfn, ck_map, stV_ifc, okE_ifc, okE_bfn, nod_arr, nodL_arr, e_addU, e_mulU, e_shrK, e_shlK, e_andK, e_cv64, e_cv32, e_callEG, e_callEY, e_callEB, e_zr, e_nilSl, e_ncP, e_ncC, e_npnP, e_npeP, e_npnC, e_npeC, e_npnN, e_npeN, e_ixAP, e_ldcP, e_ldcS, e_ldcV, e_ldcT, okE_nilP, ck_nilP, okE_nilI, ck_nilI, okE_str, ck_str, e_tlen, e_tix, e_teq, e_tne, e_tadd, e_tb, e_u8lss, e_u8gtr, noV_full, nod_arr, List.length_map, reduceIte, Int.reduceEq, Int.reduceNeg, ne_eq, not_true_eq_false, not_false_eq_true, Bool.not_true, Bool.not_false, Bool.true_or, Bool.or_true, Bool.false_or, Bool.or_false, Bool.and_true, Bool.and_false, Bool.false_and, Bool.not_not, Bool.or_self, List.length_nil, Int.ofNat_zero, Int.cast_ofNat_Int, Int.natCast_zero, beq_self_eq_true, Bool.true_eq_false]; subst hK hQ) | refine Jr.go ?_) | refine sd ?_)
        exact end1 (fzI _)
      · repeat (first | (with_reducible first | refine Ju.go ?_ | (refine Hd.go ?_; intro K Q hK hQ; simp only [nod_imm, e_not, Bool.not_true, nod_cptr, Try.underlying3, nod_nod, e_fac, Nat.zero_add, lv_cons, List.length_nil, Nat.reduceAdd, Nat.reduceLeDiff, List.getD_cons_zero, e_ldc, e_leq, true_and, e_gtr, e_gT, j_and', h3, e_gF, cond_false, j_one, List.getD_cons_succ, e_cond, Bool.false_eq_true, if_false, e_ldcA, nod_agg, List.map_cons, nodL_imm, nodL_arr, nd_no, List.map_nil]; subst hK hQ) | refine Jr.go ?_) | refine sd ?_)
        refine call_of (c30 s u n t g k _ sm su) ?_
        have cs := c22 s n t g k true
        have cu := c22 u n t g k true
        by_cases he : scE [s, u] n t g k = 0
        · obtain ⟨h1, h2, h4⟩ := okAsk_le2 he
          have w1 : rfE s n t g k true = 0 := by unfold rfE; rw [if_pos h1, if_neg (fun h => by omega)]
          have w2 : rfE u n t g k true = 0 := by unfold rfE; rw [if_pos h2, if_neg (fun h => by omega)]
          have hl := fil_len' (isD s u t g k) n
          rw [w1] at cs
          rw [w2] at cu
          rw [if_pos he, he]
          repeat (first | (with_reducible first | refine Ju.go ?_ | (refine Hd.go ?_; intro K Q hK hQ; simp only [nod_tup, List.map_cons, nod2_ints, nd_no, nod2_imm, List.map_nil, e_x20, e_x21, List.getD_cons_zero, nod_cptr, e_ldcA, lv_cons, List.length_nil, Nat.zero_add, Nat.reduceAdd, true_and, List.getD_cons_succ, nod_agg, nodL_imm, nodL_arr]; subst hK hQ) | refine Jr.go ?_) | refine sd ?_)
          refine call_of (cs _ sm) ?_
          repeat (first | (with_reducible first | refine Ju.go ?_ | (refine Hd.go ?_; intro K Q hK hQ; simp only [List.getD_cons_zero, List.getD_cons_succ, nod_cptr, e_ldcA, lv_cons, List.length_nil, Nat.zero_add, Nat.reduceAdd, true_and, nod_agg, List.map_cons, nodL_imm, nodL_arr, nd_no, List.map_nil]; subst hK hQ) | refine Jr.go ?_) | refine sd ?_)
          refine call_of (cu _ su) ?_
          repeat (first | (with_reducible first | refine Ju.go ?_ | (refine Hd.go ?_; intro K Q hK hQ; simp only [List.getD_cons_succ, List.getD_cons_zero, nod_imm, Try.underlying29, e_neq, Int.reduceEq, decide_false, Bool.not_false, decide_true, Bool.not_true, e_gT, cond_true, j_one, e_cond, Bool.false_eq_true, if_false, e_eql, nod_cptr, nod_ints, nd_no, e_ldcA, lv_cons, List.length_nil, Nat.zero_add, Nat.reduceAdd, nod_agg, List.map_cons, nodL_imm, List.map_nil, true_and, nodL_arr]; subst hK hQ) | refine Jr.go ?_) | refine sd ?_)
          refine call_of (c31 s u n t g k _ sm su h1 h2 h4) ?_
          repeat (first | (with_reducible first | refine Ju.go ?_ | (refine Hd.go ?_; intro K Q hK hQ; simp only [nod_ints, nd_no]; subst hK hQ) | refine Jr.go ?_) | refine sd ?_)
          refine call_of (c29 _ _ _ (by omega)) ?_
          rw [decide_eq_true rfl]
          repeat (first | (with_reducible first | refine Ju.go ?_ | (refine Hd.go ?_; intro K Q hK hQ; simp only [nod_imm, e_gT, cond_true]; subst hK hQ) | refine Jr.go ?_) | refine sd ?_)
          refine call_of (c15 _) ?_
          repeat (first | (with_reducible first | refine Ju.go ?_ | (refine Hd.go ?_; intro K Q hK hQ; simp only [nod_imm]; subst hK hQ) | refine Jr.go ?_) | refine sd ?_)
          exact end1 (fzI _)
        · rw [if_neg he]
          cases hs : okAsk s n t g k
          · have e : scE [s, u] n t g k = 2 := by unfold scE; simp [hs]
            have w1 : rfE s n t g k true = 2 := by unfold rfE; rw [hs, if_neg (by decide)]
            rw [w1] at cs
            rw [e]
            repeat (first | (with_reducible first | refine Ju.go ?_ | (refine Hd.go ?_; intro K Q hK hQ; simp only [nod_tup, List.map_cons, nod2_ints, nd_no, nod2_imm, List.map_nil, e_x20, e_x21, List.getD_cons_zero, nod_cptr, e_ldcA, lv_cons, List.length_nil, Nat.zero_add, Nat.reduceAdd, true_and, List.getD_cons_succ, nod_agg, nodL_imm, nodL_arr]; subst hK hQ) | refine Jr.go ?_) | refine sd ?_)
            refine call_of (cs _ sm) ?_
            repeat (first | (with_reducible first | refine Ju.go ?_ | (refine Hd.go ?_; intro K Q hK hQ; simp only [List.getD_cons_zero, List.getD_cons_succ, nod_cptr, e_ldcA, lv_cons, List.length_nil, Nat.zero_add, Nat.reduceAdd, true_and, nod_agg, List.map_cons, nodL_imm, nodL_arr, nd_no, List.map_nil]; subst hK hQ) | refine Jr.go ?_) | refine sd ?_)
            refine call_of (cu _ su) ?_
            repeat (first | (with_reducible first | refine Ju.go ?_ | (refine Hd.go ?_; intro K Q hK hQ; simp only [List.getD_cons_succ, List.getD_cons_zero, nod_imm, Try.underlying29, e_neq, decide_true, Bool.not_true, e_gT, cond_false, j_one, e_cond, Bool.false_eq_true, if_false, Int.reduceEq, decide_false, Bool.not_false, if_true, e_eql, nod_ints, nd_no, Try.underlying3, e_len, List.length_nil, Int.cast_ofNat_Int, cond_true]; subst hK hQ) | refine Jr.go ?_) | refine sd ?_)
            refine call_of (c15 _) ?_
            repeat (first | (with_reducible first | refine Ju.go ?_ | (refine Hd.go ?_; intro K Q hK hQ; simp only [nod_imm]; subst hK hQ) | refine Jr.go ?_) | refine sd ?_)
            exact end1 (fzI _)
          · cases hu : okAsk u n t g k
            · have e : scE [s, u] n t g k = 2 := by unfold scE; simp [hs, hu]
              have w2 : rfE u n t g k true = 2 := by unfold rfE; rw [hu, if_neg (by decide)]
              rw [w2] at cu
              rw [e]
              by_cases h2 : 20000 < n
              · have w1 : rfE s n t g k true = 4 := by unfold rfE; rw [hs, if_pos rfl, if_pos ⟨rfl, h2⟩]
                rw [w1] at cs
                repeat (first | (with_reducible first | refine Ju.go ?_ | (refine Hd.go ?_; intro K Q hK hQ; simp only [nod_tup, List.map_cons, nod2_ints, nd_no, nod2_imm, List.map_nil, e_x20, e_x21, List.getD_cons_zero, nod_cptr, e_ldcA, lv_cons, List.length_nil, Nat.zero_add, Nat.reduceAdd, true_and, List.getD_cons_succ, nod_agg, nodL_imm, nodL_arr]; subst hK hQ) | refine Jr.go ?_) | refine sd ?_)
                refine call_of (cs _ sm) ?_
                repeat (first | (with_reducible first | refine Ju.go ?_ | (refine Hd.go ?_; intro K Q hK hQ; simp only [List.getD_cons_zero, List.getD_cons_succ, nod_cptr, e_ldcA, lv_cons, List.length_nil, Nat.zero_add, Nat.reduceAdd, true_and, nod_agg, List.map_cons, nodL_imm, nodL_arr, nd_no, List.map_nil]; subst hK hQ) | refine Jr.go ?_) | refine sd ?_)
                refine call_of (cu _ su) ?_
                repeat (first | (with_reducible first | refine Ju.go ?_ | (refine Hd.go ?_; intro K Q hK hQ; simp only [List.getD_cons_succ, List.getD_cons_zero, nod_imm, Try.underlying29, e_neq, Int.reduceEq, decide_false, Bool.not_false, e_gT, cond_true, j_one, e_cond, if_true, e_eql, decide_true, nod_ints, nd_no, Try.underlying3, e_len, List.length_nil, Int.cast_ofNat_Int]; subst hK hQ) | refine Jr.go ?_) | refine sd ?_)
                refine call_of (c15 _) ?_
                repeat (first | (with_reducible first | refine Ju.go ?_ | (refine Hd.go ?_; intro K Q hK hQ; simp only [nod_imm]; subst hK hQ) | refine Jr.go ?_) | refine sd ?_)
                exact end1 (fzI _)
              · have w1 : rfE s n t g k true = 0 := by unfold rfE; rw [hs, if_pos rfl, if_neg (fun h => h2 h.2)]
                rw [w1] at cs
                repeat (first | (with_reducible first | refine Ju.go ?_ | (refine Hd.go ?_; intro K Q hK hQ; simp only [nod_tup, List.map_cons, nod2_ints, nd_no, nod2_imm, List.map_nil, e_x20, e_x21, List.getD_cons_zero, nod_cptr, e_ldcA, lv_cons, List.length_nil, Nat.zero_add, Nat.reduceAdd, true_and, List.getD_cons_succ, nod_agg, nodL_imm, nodL_arr]; subst hK hQ) | refine Jr.go ?_) | refine sd ?_)
                refine call_of (cs _ sm) ?_
                repeat (first | (with_reducible first | refine Ju.go ?_ | (refine Hd.go ?_; intro K Q hK hQ; simp only [List.getD_cons_zero, List.getD_cons_succ, nod_cptr, e_ldcA, lv_cons, List.length_nil, Nat.zero_add, Nat.reduceAdd, true_and, nod_agg, List.map_cons, nodL_imm, nodL_arr, nd_no, List.map_nil]; subst hK hQ) | refine Jr.go ?_) | refine sd ?_)
                refine call_of (cu _ su) ?_
                repeat (first | (with_reducible first | refine Ju.go ?_ | (refine Hd.go ?_; intro K Q hK hQ; simp only [List.getD_cons_succ, List.getD_cons_zero, nod_imm, Try.underlying29, e_neq, Int.reduceEq, decide_false, Bool.not_false, e_gT, cond_true, j_one, e_cond, if_true, e_eql, decide_true, nod_ints, nd_no, Try.underlying3, e_len, List.length_nil, Int.cast_ofNat_Int]; subst hK hQ) | refine Jr.go ?_) | refine sd ?_)
                refine call_of (c15 _) ?_
                repeat (first | (with_reducible first | refine Ju.go ?_ | (refine Hd.go ?_; intro K Q hK hQ; simp only [nod_imm]; subst hK hQ) | refine Jr.go ?_) | refine sd ?_)
                exact end1 (fzI _)
            · by_cases h2 : 20000 < n
              · have e : scE [s, u] n t g k = 4 := by unfold scE; simp [hs, hu, h2]
                have w1 : rfE s n t g k true = 4 := by unfold rfE; rw [hs, if_pos rfl, if_pos ⟨rfl, h2⟩]
                have w2 : rfE u n t g k true = 4 := by unfold rfE; rw [hu, if_pos rfl, if_pos ⟨rfl, h2⟩]
                rw [w1] at cs
                rw [w2] at cu
                rw [e]
                repeat (first | (with_reducible first | refine Ju.go ?_ | (refine Hd.go ?_; intro K Q hK hQ; simp only [nod_tup, List.map_cons, nod2_ints, nd_no, nod2_imm, List.map_nil, e_x20, e_x21, List.getD_cons_zero, nod_cptr, e_ldcA, lv_cons, List.length_nil, Nat.zero_add, Nat.reduceAdd, true_and, List.getD_cons_succ, nod_agg, nodL_imm, nodL_arr]; subst hK hQ) | refine Jr.go ?_) | refine sd ?_)
                refine call_of (cs _ sm) ?_
                repeat (first | (with_reducible first | refine Ju.go ?_ | (refine Hd.go ?_; intro K Q hK hQ; simp only [List.getD_cons_zero, List.getD_cons_succ, nod_cptr, e_ldcA, lv_cons, List.length_nil, Nat.zero_add, Nat.reduceAdd, true_and, nod_agg, List.map_cons, nodL_imm, nodL_arr, nd_no, List.map_nil]; subst hK hQ) | refine Jr.go ?_) | refine sd ?_)
                refine call_of (cu _ su) ?_
                repeat (first | (with_reducible first | refine Ju.go ?_ | (refine Hd.go ?_; intro K Q hK hQ; simp only [List.getD_cons_succ, List.getD_cons_zero, nod_imm, Try.underlying29, e_neq, Int.reduceEq, decide_false, Bool.not_false, e_gT, cond_true, j_one, e_cond, if_true, e_eql, decide_true, nod_ints, nd_no, Try.underlying3, e_len, List.length_nil, Int.cast_ofNat_Int]; subst hK hQ) | refine Jr.go ?_) | refine sd ?_)
                refine call_of (c15 _) ?_
                repeat (first | (with_reducible first | refine Ju.go ?_ | (refine Hd.go ?_; intro K Q hK hQ; simp only [nod_imm]; subst hK hQ) | refine Jr.go ?_) | refine sd ?_)
                exact end1 (fzI _)
              · exact absurd (show scE [s, u] n t g k = 0 by unfold scE; simp [hs, hu, h2]) he
end Go.Proofs.Ytgodfjbmblghnaa


set_option linter.unusedVariables false
set_option linter.unusedSimpArgs false
set_option linter.unnecessarySimpa false
set_option maxRecDepth 20000
set_option maxHeartbeats 2000000
namespace Go.Proofs.Ytgodfjbmblghnaa
open Go Go.Ab Go.Proofs
attribute [local congr] g_bin g_nilS g_nilP g_un g_ext g_bx g_fa g_ld g_st g_ix g_ixA g_slc g_mk g_bs g_bd g_nc g_cv g_len g_lenT g_app g_appB g_cpy g_mm g_call g_callG g_calm g_calmG g_range g_res g_pick g_cond g_loop g_Jv g_eqS g_eqP g_fd g_ixT g_ta g_lkp g_upd g_mkM g_appS g_inv g_callE g_callEG g_invE g_zr g_wr
open Go.ChangeShapes Go.WideShapes Go.ChangeAt Go.RowKit
theorem own : ownKnob Try.prog.godebug = none := by kernel_rfl
theorem laidOut : laidOutB Try.prog = true := by kernel_rfl
set_option maxRecDepth 100000 in
theorem lifted (os : Os) (started : os.Started) (H : Type) (enc : TypeId × Value → H) :
    ReturnsInHanded {} Try.checked os 8 .any (Rows.numeralDiffersSpec.pre6 enc Try.prog Try.f8 Rows.numeralDiffersRow.domain false) (Rows.numeralDiffersSpec.post enc Try.prog Try.f8 false true false false) := by
  refine returnsInHanded_of_change (C := Try.checked) own started (by kernel_rfl) Try.func8
    (ChangeSpec.witness6 (enc := enc) (C := Try.checked) false ⟨#[], #[.agg #[.int .i64 0, .int .i64 0, .int .i64 0, .int .i64 0, .slice none 0 0, .slice none 0 0, .slice none 0 0], .agg #[.int .i64 0, .int .i64 0, .int .i64 0, .int .i64 0, .slice none 0 0, .slice none 0 0, .slice none 0 0], .agg #[.int .i64 0, .int .i64 0, .int .i64 0, .int .i64 0]], []⟩ 8 (by kernel_rfl) (by kernel_rfl) (by kernel_rfl) (by kernel_rfl)) ?_
  intro W base args ds gs before hval0 hW hcnd _
  have hval : ∀ (j : Nat) t v, Try.f8.params[j]? = some t → args[j]? = some v → Value.okWide Try.prog W .any base t v := hval0
  have hW' := hW
  obtain ⟨p, q, hA0, hV, rfl, hfz, hnd⟩ := hW
  have hA : DataW.TrodAll enc Try.prog W 0 (fun _ => true) true Try.f8.params.toList args.toList ds p := hA0
  rw [Try.params8] at hA hval
  obtain ⟨v0, vs0, d0, ds0, p0, q0, hargs, rfl, rfl, h0, r0⟩ := trodAll_cons hA
  obtain ⟨v1, vs1, d1, ds1, p1, q1, rfl, rfl, rfl, h1, r1⟩ := trodAll_cons r0
  obtain ⟨v2, vs2, d2, ds2, p2, q2, rfl, rfl, rfl, h2, r2⟩ := trodAll_cons r1
  obtain ⟨rfl, rfl, rfl⟩ := trodAll_nil r2
  obtain rfl : args = #[v0, v1, v2] := by cases args; simp_all
  obtain ⟨rfl, rfl⟩ := trodVars_none hV
  have lt0 : ∀ x ∈ p0, x.block < W.heap.size := by obtain ⟨m, hm⟩ := h0; exact DataW.trod_lt m _ _ _ hm
  obtain ⟨l0, w0, e0⟩ := in_sys (hval 0 _ v0 rfl rfl) h0
  have lt1 : ∀ x ∈ p1, x.block < W.heap.size := by obtain ⟨m, hm⟩ := h1; exact DataW.trod_lt m _ _ _ hm
  obtain ⟨l1, w1, e1⟩ := in_sys (hval 1 _ v1 rfl rfl) h1
  have lt2 : ∀ x ∈ p2, x.block < W.heap.size := by obtain ⟨m, hm⟩ := h2; exact DataW.trod_lt m _ _ _ hm
  obtain ⟨n2, t2, g2, k2, e2⟩ := in_ask (hval 2 _ v2 rfl rfl) h2
  clear hA0 hval0
  refine (bridge (args := [syV l0, syV l1, asV n2 t2 g2 k2]) (ra := #[v0, v1, v2]) (c8 l0 l1 n2 t2 g2 k2 [] w0 w1) rfl (by intro a ha; simp at ha; rcases ha with rfl | rfl | rfl <;> rfl) (fun i => ?_)).mono fun e W' ⟨he, bel⟩ => ?_
  · match i with
    | 0 => exact e0
    | 1 => exact e1
    | 2 => exact e2
    | i + 3 => exact .junk _
  · subst he
    exact ⟨_, rfl, _, _, _, [], _, [], hW', trodAll_mk1 (shut_bool Try.underlying4 _), (trodAll_cons_mk (Below.trod laidOut (by kernel_rfl) (of_decide_eq_true (by kernel_rfl)) h0 bel lt0) (trodAll_cons_mk (Below.trod laidOut (by kernel_rfl) (of_decide_eq_true (by kernel_rfl)) h1 bel lt1) (trodAll_cons_mk (Below.trod laidOut (by kernel_rfl) (of_decide_eq_true (by kernel_rfl)) h2 bel lt2) trodAll_mk0))), rfl, bel.frame _, fun h => by cases h⟩
theorem over : Rows.numeralDiffersRow.holds Try.pinned (OpenSpec.ofChange Rows.numeralDiffersSpec) :=
  OpenClaim.holds_of_wide 8 Try.f8 rfl rfl rfl rfl rfl rfl rfl ⟨rfl, rfl, rfl, rfl, rfl⟩ rfl rfl rfl rfl rfl (by kernel_rfl) Try.func8 (by kernel_rfl)
    (of_decide_eq_true (by kernel_rfl)) (by unfold Func.isWrapper; first | (rw [if_pos (by decide +kernel)]; kernel_rfl) | (rw [if_neg (by decide +kernel)]; exact ⟨rfl, rfl⟩))
    (fun os started H enc _ => lifted os started H enc)
theorem numeralDiffers_holds : Rows.NumeralDiffersSaid := over
#print axioms numeralDiffers_holds
end Go.Proofs.Ytgodfjbmblghnaa

