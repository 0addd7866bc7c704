/- NumeralSpells: the words of any number in any system, why each of them is there, and what is refused; no condition. -/
import Derived.Test.YtgodfjbmblghnaaP6
import Derived.Test.YtgodfjbmblghnaaProg
import Derived.Test.YtgodfjbmblghnaaRows
set_option linter.unusedVariables false
set_option maxRecDepth 20000
set_option maxHeartbeats 4000000
namespace Go.Proofs.Ytgodfjbmblghnaa
open Go Go.Ab Go.Proofs
def an4 : An := { imm := [2, 3], jn := [(4, [2, 3, 5, 6]), (6, [2, 3, 5, 6, 7, 8, 9]), (8, [2, 3, 5, 6, 7, 8]), (11, [2, 3, 5, 6, 7, 8, 10]), (13, [7, 10, 109]), (18, [7, 10, 14, 124])], lp := [(15, [7, 10, 14])], loud := [], ord := [] }
def vc4 (C : Cb) (a0 a1 : V) (H : Hp) (R : List V → Hp → Prop) : Prop :=
 C.aBx true 7 a0.nod H fun v1 H2 =>
 C.aBx true 4 a1.nod H2 fun v3 H4 =>
 C.aLd 7 true false v1.nod H4 fun v5 H6 =>
 C.callE 14 [v5.nod] H6 fun v7 H8 =>
 C.aUn .not v7.nod fun v9 =>
 aCond v9.nod (
 C.callE 15 [] H8 fun v10 H11 =>
 R [v10] H11) (
 Jn (fun l12 H13 =>
 C.aLd 7 true false (l12.getD 0 .junk).nod H13 fun v15 H16 =>
 C.aLd 4 true false (l12.getD 1 .junk).nod H16 fun v17 H18 =>
 C.callE 21 [v15.nod, v17.nod] H18 fun v19 H20 =>
 C.aExt 0 v19.nod.nod fun v21 =>
 C.aExt 1 v19.nod.nod fun v22 =>
 Jn (fun l23 H24 =>
 C.aLd 7 true false (l23.getD 0 .junk).nod H24 fun v26 H27 =>
 C.aLd 4 true false (l23.getD 1 .junk).nod H27 fun v28 H29 =>
 C.callE 23 [v26.nod, v28.nod, (I 0)] H29 fun v30 H31 =>
 C.aExt 0 v30.nod.nod fun v32 =>
 C.aExt 1 v30.nod.nod fun v33 =>
 Jn (fun l34 H35 =>
 C.aLd 7 true false (l34.getD 0 .junk).nod H35 fun v37 H38 =>
 C.aLd 4 true false (l34.getD 1 .junk).nod H38 fun v39 H40 =>
 C.callE 24 [v37.nod, v39.nod] H40 fun v41 H42 =>
 C.aExt 0 v41.nod.nod fun v43 =>
 C.aExt 1 v41.nod.nod fun v44 =>
 Jn (fun l45 H46 =>
 aCond (l45.getD 2 .junk).nod (
 R [(B false)] H46) (
 LoopA (fun l48 H49 K50 =>
 C.aLen (l48.getD 1 .junk).nod.nod fun v51 =>
 C.aBin (Try.prog.underlying 3) .lss (l48.getD 2 .junk).nod.nod v51.nod fun v52 =>
 aCond v52.nod (
 Jn (fun l53 H54 =>
 aCond (l53.getD 3 .junk).nod (
 R [(B false)] H54) (
 C.aBin (Try.prog.underlying 3) .add (l53.getD 2 .junk).nod.nod (I 1) fun v56 =>
 K50 [(l53.getD 0 .junk), (l53.getD 1 .junk), v56] H54))
 (fun R55 =>
 C.aIx 6 (l48.getD 0 .junk).nod.nod (l48.getD 2 .junk).nod.nod fun v57 =>
 C.aLd 6 true false v57.nod H49 fun v58 H59 =>
 C.aIx 6 (l48.getD 1 .junk).nod.nod (l48.getD 2 .junk).nod.nod fun v60 =>
 C.aLd 6 true false v60.nod H59 fun v61 H62 =>
 C.aEqS 50 .neq v58.nod v61.nod fun v63 =>
 R55 [(l48.getD 0 .junk), (l48.getD 1 .junk), (l48.getD 2 .junk), v63] H62)) (
 C.callE 15 [] H49 fun v64 H65 =>
 R [v64] H65))
 [(l45.getD 0 .junk), (l45.getD 1 .junk), (I 0)] H46))
 (fun R47 =>
 C.aBin (Try.prog.underlying 29) .neq (l34.getD 3 .junk).nod.nod (I 0) fun v66 =>
 Jv (fun v67 H68 =>
 Jv (fun v71 H72 =>
 Jv (fun v77 H78 =>
 Jv (fun v83 H84 =>
 R47 [(l34.getD 4 .junk), (l34.getD 6 .junk), v83] H84)
 (fun R85 =>
 aG v77.nod false (
 C.aLen (l34.getD 2 .junk).nod.nod fun v86 =>
 C.aBin (Try.prog.underlying 3) .lss v86.nod (I 1) fun v87 =>
 R85 v87.nod H78) (
 R85 (B true) H78)))
 (fun R79 =>
 aG v71.nod false (
 C.aLen (l34.getD 4 .junk).nod.nod fun v80 =>
 C.aLen (l34.getD 6 .junk).nod.nod fun v81 =>
 C.aBin (Try.prog.underlying 3) .neq v80.nod v81.nod fun v82 =>
 R79 v82.nod H72) (
 R79 (B true) H72)))
 (fun R73 =>
 aG v67.nod false (
 C.callE 25 [(l34.getD 2 .junk).nod.nod, v43.nod.nod] H68 fun v74 H75 =>
 C.aUn .not v74.nod fun v76 =>
 R73 v76.nod H75) (
 R73 (B true) H68)))
 (fun R69 =>
 aG v66.nod false (
 C.aBin (Try.prog.underlying 29) .neq (l34.getD 5 .junk).nod.nod (I 0) fun v70 =>
 R69 v70.nod H42) (
 R69 (B true) H42))))
 (fun R36 =>
 C.aUn .not v33.nod.nod fun v88 =>
 aCond v88.nod (
 C.aBin (Try.prog.underlying 29) .eql (l23.getD 3 .junk).nod.nod (I 5) fun v89 =>
 Jv (fun v90 H91 =>
 Jv (fun v94 H95 =>
 Jv (fun v101 H102 =>
 R [v101] H102)
 (fun R103 =>
 aG v94.nod true (
 C.callE 15 [] H95 fun v104 H105 =>
 R103 v104.nod H105) (
 R103 (B false) H95)))
 (fun R96 =>
 aG v90.nod true (
 C.aLen (l23.getD 2 .junk).nod.nod fun v97 =>
 C.aLen (l23.getD 4 .junk).nod.nod fun v98 =>
 C.aBin (Try.prog.underlying 3) .add v97.nod v98.nod fun v99 =>
 C.aBin (Try.prog.underlying 3) .eql v99.nod (I 0) fun v100 =>
 R96 v100.nod H91) (
 R96 (B false) H91)))
 (fun R92 =>
 aG v89.nod true (
 C.aBin (Try.prog.underlying 29) .eql (l23.getD 5 .junk).nod.nod (I 5) fun v93 =>
 R92 v93.nod H31) (
 R92 (B false) H31))) (
 R36 [(l23.getD 0 .junk), (l23.getD 1 .junk), (l23.getD 2 .junk), (l23.getD 3 .junk), (l23.getD 4 .junk), (l23.getD 5 .junk), v32] H31)))
 (fun R25 =>
 Jn (fun l106 H107 =>
 C.aBin (Try.prog.underlying 29) .neq (l106.getD 6 .junk).nod.nod (I 0) fun v109 =>
 aCond v109.nod (
 C.aBin (Try.prog.underlying 29) .eql (l106.getD 3 .junk).nod.nod (l106.getD 6 .junk).nod.nod fun v110 =>
 Jv (fun v111 H112 =>
 Jv (fun v115 H116 =>
 Jv (fun v122 H123 =>
 R [v122] H123)
 (fun R124 =>
 aG v115.nod true (
 C.callE 15 [] H116 fun v125 H126 =>
 R124 v125.nod H126) (
 R124 (B false) H116)))
 (fun R117 =>
 aG v111.nod true (
 C.aLen (l106.getD 2 .junk).nod.nod fun v118 =>
 C.aLen (l106.getD 4 .junk).nod.nod fun v119 =>
 C.aBin (Try.prog.underlying 3) .add v118.nod v119.nod fun v120 =>
 C.aBin (Try.prog.underlying 3) .eql v120.nod (I 0) fun v121 =>
 R117 v121.nod H112) (
 R117 (B false) H112)))
 (fun R113 =>
 aG v110.nod true (
 C.aBin (Try.prog.underlying 29) .eql (l106.getD 5 .junk).nod.nod (l106.getD 6 .junk).nod.nod fun v114 =>
 R113 v114.nod H107) (
 R113 (B false) H107))) (
 R25 [(l106.getD 0 .junk), (l106.getD 1 .junk), (l106.getD 2 .junk), (l106.getD 3 .junk), (l106.getD 4 .junk), (l106.getD 5 .junk)] H107))
 (fun R108 =>
 C.aLd 7 true false (l12.getD 0 .junk).nod H20 fun v127 H128 =>
 C.aLd 4 true false (l12.getD 1 .junk).nod H128 fun v129 H130 =>
 C.callE 22 [v127.nod, v129.nod, (B false)] H130 fun v131 H132 =>
 R108 [(l12.getD 0 .junk), (l12.getD 1 .junk), (l12.getD 2 .junk), (l12.getD 3 .junk), v21, v22, v131] H132)))
 (fun R14 =>
 C.aLd 7 true false v1.nod H8 fun v133 H134 =>
 C.aLd 4 true false v3.nod H134 fun v135 H136 =>
 C.callE 20 [v133.nod, v135.nod] H136 fun v137 H138 =>
 C.aExt 0 v137.nod.nod fun v139 =>
 C.aExt 1 v137.nod.nod fun v140 =>
 R14 [v1, v3, v139, v140] H138))
theorem wf4 : (Nat.ble 2 Try.f4.ntmps && wfC an4 Try.f4.ntmps (Try.f4.body.getD .skip)) = true := by kernel_rfl
theorem tie4 (C : Cb) (a0 a1 : V) (H : Hp) (R : List V → Hp → Prop) : wpG Try.prog C an4 (Try.f4.body.getD .skip) (argF [a0, a1]) H (retG Try.prog C Try.f4 R) (fun _ _ _ => False) (retG Try.prog C Try.f4 R) = vc4 C a0 a1 H R := by kernel_rfl
theorem mk4 (a0 a1 : V) {H : Hp} {v : V} {H1 : Hp} (hd : v.Nd) (hn : H.length ≤ H1.length) (hb : H1 = H ∨ ∀ (b : Nat) (blk : Blk), H1[b]? = some blk → H[b]? = some blk ∨ BelB H1.length blk) (h : vc4 (real Try.prog) a0 a1 H (retF v H1)) : Ret Try.prog 4 [a0, a1] H v H1 :=
  ret_mk (an := an4) hm Try.call4 Try.func4 rfl wf4 hd hn hb (Eq.mpr (tie4 (real Try.prog) a0 a1 H (retF v H1)) h)
theorem mkE4 (a0 a1 : V) {H : Hp} {Q : V → Hp → Prop} (h : vc4 (real Try.prog) a0 a1 H (retW Q)) : RetE Try.prog 4 [a0, a1] H Q :=
  retE_mk (an := an4) hm Try.call4 Try.func4 rfl wf4 (Eq.mpr (tie4 (real Try.prog) a0 a1 H (retW Q)) h)
theorem mko4 (a0 a1 : V) {H : Hp} {xs : List V} {H1 : Hp} (hn : H.length ≤ H1.length) (hb : H1 = H ∨ ∀ (b : Nat) (blk : Blk), H1[b]? = some blk → H[b]? = some blk ∨ BelB H1.length blk) (h : vc4 (real Try.prog) a0 a1 H (retO xs H1)) : Ret Try.prog 4 [a0, a1] H (.arr xs .own) H1 :=
  ret_mko (an := an4) (t := 4) hm Try.call4 Try.func4 rfl wf4 rfl hn hb (Eq.mpr (tie4 (real Try.prog) a0 a1 H (retO xs H1)) h)
end Go.Proofs.Ytgodfjbmblghnaa


set_option linter.unusedVariables false
set_option linter.unusedSimpArgs false
set_option linter.unnecessarySimpa false
set_option maxRecDepth 20000
set_option maxHeartbeats 2000000
namespace Go.Proofs.Ytgodfjbmblghnaa
open Go Go.Ab Go.Proofs
attribute [local congr] g_bin g_nilS g_nilP g_un g_ext g_bx g_fa g_ld g_st g_ix g_ixA g_slc g_mk g_bs g_bd g_nc g_cv g_len g_lenT g_app g_appB g_cpy g_mm g_call g_callG g_calm g_calmG g_range g_res g_pick g_cond g_loop g_Jv g_eqS g_eqP g_fd g_ixT g_ta g_lkp g_upd g_mkM g_appS g_inv g_callE g_callEG g_invE g_zr g_wr
theorem spE_ok {s : Sy} {n t g k : Int} (h : okAsk s n t g k = true) : spE s n t g k = if (saW s n t g k).all gdW = true then 0 else 5 := if_pos h
theorem spL_ok {s : Sy} {n t g k : Int} (h : okAsk s n t g k = true) : spL s n t g k = trW s n t g k := if_pos h
theorem spE_no {s : Sy} {n t g k : Int} (h : okAsk s n t g k = false) : spE s n t g k = 2 := if_neg (by rw [h]; decide)
theorem spL_no {s : Sy} {n t g k : Int} (h : okAsk s n t g k = false) : spL s n t g k = [] := if_neg (by rw [h]; decide)
theorem rfE_no {s : Sy} {n t g k : Int} {sc : Bool} (h : okAsk s n t g k = false) : rfE s n t g k sc = 2 := if_neg (by rw [h]; decide)
theorem rfE_ok {s : Sy} {n t g k : Int} (h : okAsk s n t g k = true) : rfE s n t g k false = 0 := by unfold rfE; rw [if_pos h, if_neg (fun h => by cases h.1)]
theorem c4 (s : Sy) (n t g k : Int) (H : Hp) (sm : Sm s) : Ret Try.prog 4 [syV s, asV n t g k] H (B true) H := by
  refine mk4 _ _ rfl (Nat.le_refl _) (.inl rfl) ?_
  simp only [vc4, real]
  repeat (first | (with_reducible first | refine Ju.go ?_ | (refine Hd.go ?_; intro K Q hK hQ; simp only [nod_agg, List.map_cons, nodL_imm, nodL_arr, nd_no, List.map_nil, e_bxI, okE_agg, lv_cons, List.length_nil, Nat.zero_add, Nat.reduceAdd, all_c, ck_I, ck_arr, all_n, Bool.and_self, and_true, true_and, nod_cptr, e_ldcA]; subst hK hQ) | refine Jr.go ?_) | refine sd ?_)
  refine callE_of (c14 s H sm) fun v H1 ⟨hH, b, hv⟩ => ?_
  replace hH := hH.symm
  subst hv hH
  cases b
  · repeat (first | (with_reducible first | refine Ju.go ?_ | (refine Hd.go ?_; intro K Q hK hQ; simp only [nod_imm, e_not, Bool.not_false, e_cond, if_true]; subst hK hQ) | refine Jr.go ?_) | refine sd ?_)
    refine call_of (c15 _) ?_
    repeat (first | (with_reducible first | refine Ju.go ?_ | (refine Hd.go ?_; intro K Q hK hQ; simp only [Try.underlying3, Try.underlying4, Try.underlying5, Try.underlying9, Try.underlying29, Try.underlying57, Try.underlying55, j_one, j_side, j_tl, j_fl, nod_nod, nod_imm, nod_ints, nd_no, nd_own, nd_full, nd_fO, oF_ap, oF_succ, nod_sl, nod_ptr, nod_cptr, nod_fn, nod_junk, nodL_imm, nod_agg, nod_tup, nod2_imm, nod2_agg, cl_imm, cl_ints, cl_agg, e_add, e_sub, e_mul, e_quo, e_rem, e_eql, e_neq, e_lss, e_leq, e_gtr, e_geq, e_beq, e_bne, e_neg, e_not, e_pick, e_cond, e_gT, e_gF, e_len, e_lenA, e_lenS, e_ix, e_ixS, e_ldc, e_ldci, e_fa, rep_cl, rep_I, e_bx, okE_I, okE_B, okE_E8, okE_ints, stV_imm, stV_ints, j_and', j_or', List.getD_cons_zero, List.getD_cons_succ, List.map_cons, List.map_nil, decide_eq_true_eq, Int.toNat_natCast, Nat.mul_one, Nat.zero_add, true_and, and_true, List.length_map, Bool.not_eq_true', decide_eq_false_iff_not, nod_lists, e_lenL, e_ixL, okE_lists, bs1, bs1L, bs2L, e_app, e_appL, e_app0, e_app0L, e_slcLo, e_slcHi, e_slcLH, e_slcHH, e_slcLHH, e_callG, e_callY, e_calmG, e_slS0, e_slSLo, e_slSHi, e_slSLH, e_slSHH, e_slSLHH, e_max2, e_min2, e_max3, e_x20, e_x21, e_x30, e_x31, e_x32, nod2_ints, nod2_lists, rep_fl, bs0, e_nilE, if_true, if_false, cond_true, cond_false, decide_true, decide_false, eq_self, Bool.false_eq_true, false_implies, true_implies, ap_own, ap_full, e_slcLoL, e_slcHiL, e_slcLHL, hp_assoc, hp_cons, hp_nil, hp_len, hp_len_cons, hp_len_nil, lv_cons, lv_nil, vs_0, vs_s, spl_s, spl_0, spl_n, dr_s, dr_0, tk_s, tk_0, e_bxI, e_fac, e_facA, e_ldcA, e_ldcL, e_ldcF, okE_agg, ck_I, ck_B, ck_ints, ck_lists, ck_arr, ck_ptr, ck_cptr, ck_fn, all_c, all_n, stV_agg, stV_lists, stV_arr, stV_ptr, stV_cptr, stV_fn, nodL_ints, nodL_lists, nodL_ptr, nodL_cptr, nodL_fn, nodL_arr0, cl_arr, cl_ptr, cl_cptr, cl_fn, cl_lists, okE_arr, okE_fn, okE_ptr, okE_cptr, e_bd0, e_bd1, e_wr, Nat.reduceAdd, Nat.reduceLeDiff, Nat.reduceEqDiff, Nat.add_zero, Bool.and_self, Bool.true_and, Bool.and_true, e_lc0, e_lA0, e_lM0, e_sc0, e_rc0, e_rA0, e_lI0, e_sI0, e_cI0, e_lc1, e_lA1, e_lM1, e_sc1, e_rc1, e_rA1, e_lI1, e_sI1, e_cI1, e_lc2, e_lA2, e_lM2, e_sc2, e_rc2, e_rA2, e_lI2, e_sI2, e_cI2, e_lc3, e_lA3, e_lM3, e_sc3, e_rc3, e_rA3, e_lI3, e_sI3, e_cI3, e_lc4, e_lA4, e_lM4, e_sc4, e_rc4, e_rA4, e_lI4, e_sI4, e_cI4, e_lc5, e_lA5, e_lM5, e_sc5, e_rc5, e_rA5, e_lI5, e_sI5, e_cI5, own0_arr, own0_ints, own0_lists, own0_imm, own0_ptr, own0_cptr, own0_fn, own0_agg, e_appB, e_appB0, ck_sl, own0_sl, stV_sl, nodL_sl, cl_sl, okE_sl, e_mkM, e_mkI, e_mkIm, e_callB, nod_bfn, nod_ifc, nod_map, nodL_ifc, nodL_bfn, nodL_map, cl_ifc, cl_bfn, ck_ifc, ck_bfn, ck_map, stV_ifc, okE_ifc, okE_bfn, nod_arr, nodL_arr, e_addU, e_mulU, e_shrK, e_shlK, e_andK, e_cv64, e_cv32, e_callEG, e_callEY, e_callEB, e_zr, e_nilSl, e_ncP, e_ncC, e_npnP, e_npeP, e_npnC, e_npeC, e_npnN, e_npeN, e_ixAP, e_ldcP, e_ldcS, e_ldcV, e_ldcT, okE_nilP, ck_nilP, okE_nilI, ck_nilI, okE_str, ck_str, e_tlen, e_tix, e_teq, e_tne, e_tadd, e_tb, e_u8lss, e_u8gtr, noV_full, nod_arr, List.length_map, reduceIte, Int.reduceEq, Int.reduceNeg, ne_eq, not_true_eq_false, not_false_eq_true, Bool.not_true, Bool.not_false, Bool.true_or, Bool.or_true, Bool.false_or, Bool.or_false, Bool.and_true, Bool.and_false, Bool.false_and, Bool.not_not, Bool.or_self, List.length_nil, Int.ofNat_zero, Int.cast_ofNat_Int, Int.natCast_zero, beq_self_eq_true, Bool.true_eq_false]; subst hK hQ) | refine Jr.go ?_) | refine sd ?_)
    exact end1 (fzI _)
  · repeat (first | (with_reducible first | refine Ju.go ?_ | (refine Hd.go ?_; intro K Q hK hQ; simp only [nod_imm, e_not, Bool.not_true, e_cond, Bool.false_eq_true, if_false, nod_cptr, e_ldcA, lv_cons, List.length_nil, Nat.zero_add, Nat.reduceAdd, true_and, nod_agg, List.map_cons, nodL_imm, nodL_arr, nd_no, List.map_nil]; subst hK hQ) | refine Jr.go ?_) | refine sd ?_)
    refine call_of (c20 s n t g k _ sm) ?_
    cases ho : okAsk s n t g k
    · rw [spE_no ho, spL_no ho]
      repeat (first | (with_reducible first | refine Ju.go ?_ | (refine Hd.go ?_; intro K Q hK hQ; simp only [List.map_nil, nod_tup, List.map_cons, nod2_arr, nd_no, nod2_imm, e_x20, e_x21, List.getD_cons_zero, nod_cptr, e_ldcA, lv_cons, List.length_nil, Nat.zero_add, Nat.reduceAdd, true_and, List.getD_cons_succ, nod_agg, nodL_imm, nodL_arr]; subst hK hQ) | refine Jr.go ?_) | refine sd ?_)
      refine call_of (c21 s n t g k _ sm) ?_
      rw [spE_no ho, spL_no ho]
      repeat (first | (with_reducible first | refine Ju.go ?_ | (refine Hd.go ?_; intro K Q hK hQ; simp only [nod_tup, List.map_cons, nod2_arr, List.map_nil, nd_no, nod2_imm, e_x20, e_x21, List.getD_cons_zero, nod_cptr, e_ldcA, lv_cons, List.length_nil, Nat.zero_add, Nat.reduceAdd, true_and, List.getD_cons_succ, nod_agg, nodL_imm, nodL_arr]; subst hK hQ) | refine Jr.go ?_) | refine sd ?_)
      refine call_of (c22 s n t g k false _ sm) ?_
      rw [rfE_no ho]
      repeat (first | (with_reducible first | refine Ju.go ?_ | (refine Hd.go ?_; intro K Q hK hQ; simp only [List.getD_cons_zero, List.getD_cons_succ, nod_imm, Try.underlying29, e_neq, Int.reduceEq, decide_false, Bool.not_false, e_cond, if_true, e_eql, decide_true, e_gT, cond_true, j_one, nod_arr, nd_no, Try.underlying3, e_lenA, List.length_nil, Int.cast_ofNat_Int, e_add, j_side]; subst hK hQ) | refine Jr.go ?_) | refine sd ?_)
      refine call_of (c15 _) ?_
      repeat (first | (with_reducible first | refine Ju.go ?_ | (refine Hd.go ?_; intro K Q hK hQ; simp only [nod_imm]; subst hK hQ) | refine Jr.go ?_) | refine sd ?_)
      exact end1 (fzI _)
    · rw [spE_ok ho, spL_ok ho]
      have hlen := trW_len sm ho
      have hpos := saW_pos sm ho
      have h21 := c21 s n t g k
      have h23 := c23s s n t g k
      have h24 := c24 s n t g k
      rw [spE_ok ho, spL_ok ho] at h21
      cases hg : (saW s n t g k).all gdW
      · rw [if_neg (by decide), trW_no hg]
        rw [hg, if_neg (by decide), trW_no hg] at h21
        rw [hg, trW_no hg] at h23
        repeat (first | (with_reducible first | refine Ju.go ?_ | (refine Hd.go ?_; intro K Q hK hQ; simp only [List.map_nil, nod_tup, List.map_cons, nod2_arr, nd_no, nod2_imm, e_x20, e_x21, List.getD_cons_zero, nod_cptr, e_ldcA, lv_cons, List.length_nil, Nat.zero_add, Nat.reduceAdd, true_and, List.getD_cons_succ, nod_agg, nodL_imm, nodL_arr]; subst hK hQ) | refine Jr.go ?_) | refine sd ?_)
        refine call_of (h21 _ sm) ?_
        repeat (first | (with_reducible first | refine Ju.go ?_ | (refine Hd.go ?_; intro K Q hK hQ; simp only [nod_tup, List.map_cons, nod2_arr, List.map_nil, nd_no, nod2_imm, e_x20, e_x21, List.getD_cons_zero, nod_cptr, e_ldcA, lv_cons, List.length_nil, Nat.zero_add, Nat.reduceAdd, true_and, List.getD_cons_succ, nod_agg, nodL_imm, nodL_arr]; subst hK hQ) | refine Jr.go ?_) | refine sd ?_)
        refine call_of (c22 s n t g k false _ sm) ?_
        rw [rfE_ok ho]
        repeat (first | (with_reducible first | refine Ju.go ?_ | (refine Hd.go ?_; intro K Q hK hQ; simp only [List.getD_cons_zero, List.getD_cons_succ, nod_imm, Try.underlying29, e_neq, decide_true, Bool.not_true, e_cond, Bool.false_eq_true, if_false, nod_cptr, e_ldcA, lv_cons, List.length_nil, Nat.zero_add, Nat.reduceAdd, true_and, nod_agg, List.map_cons, nodL_imm, nodL_arr, nd_no, List.map_nil]; subst hK hQ) | refine Jr.go ?_) | refine sd ?_)
        refine call_of (h23 _ sm ho) ?_
        repeat (first | (with_reducible first | refine Ju.go ?_ | (refine Hd.go ?_; intro K Q hK hQ; simp only [nod_tup, List.map_cons, nod2_arr, List.map_nil, nd_no, nod2_imm, e_x20, e_x21, nod_imm, e_not, Bool.not_false, e_cond, if_true, List.getD_cons_succ, List.getD_cons_zero, Try.underlying29, e_eql, decide_true, e_gT, cond_true, j_one, nod_arr, Try.underlying3, e_lenA, List.length_nil, Int.cast_ofNat_Int, e_add, j_side]; subst hK hQ) | refine Jr.go ?_) | refine sd ?_)
        refine call_of (c15 _) ?_
        repeat (first | (with_reducible first | refine Ju.go ?_ | (refine Hd.go ?_; intro K Q hK hQ; simp only [nod_imm]; subst hK hQ) | refine Jr.go ?_) | refine sd ?_)
        exact end1 (fzI _)
      · rw [if_pos rfl]
        rw [hg, if_pos rfl] at h21
        rw [hg] at h23 h24
        have h1 : 1 ≤ (trW s n t g k).length := by rw [trW_all hg]; exact hpos
        generalize trW s n t g k = l at *
        repeat (first | (with_reducible first | refine Ju.go ?_ | (refine Hd.go ?_; intro K Q hK hQ; simp only [nod_tup, List.map_cons, nod2_arr, nd_no, nod2_imm, List.map_nil, e_x20, e_x21, List.getD_cons_zero, nod_cptr, e_ldcA, lv_cons, List.length_nil, Nat.zero_add, Nat.reduceAdd, true_and, List.getD_cons_succ, nod_agg, nodL_imm, nodL_arr]; subst hK hQ) | refine Jr.go ?_) | refine sd ?_)
        refine call_of (h21 _ sm) ?_
        repeat (first | (with_reducible first | refine Ju.go ?_ | (refine Hd.go ?_; intro K Q hK hQ; simp only [nod_tup, List.map_cons, nod2_arr, nd_no, nod2_imm, List.map_nil, e_x20, e_x21, List.getD_cons_zero, nod_cptr, e_ldcA, lv_cons, List.length_nil, Nat.zero_add, Nat.reduceAdd, true_and, List.getD_cons_succ, nod_agg, nodL_imm, nodL_arr]; subst hK hQ) | refine Jr.go ?_) | refine sd ?_)
        refine call_of (c22 s n t g k false _ sm) ?_
        rw [rfE_ok ho]
        repeat (first | (with_reducible first | refine Ju.go ?_ | (refine Hd.go ?_; intro K Q hK hQ; simp only [List.getD_cons_zero, List.getD_cons_succ, nod_imm, Try.underlying29, e_neq, decide_true, Bool.not_true, e_cond, Bool.false_eq_true, if_false, nod_cptr, e_ldcA, lv_cons, List.length_nil, Nat.zero_add, Nat.reduceAdd, true_and, nod_agg, List.map_cons, nodL_imm, nodL_arr, nd_no, List.map_nil]; subst hK hQ) | refine Jr.go ?_) | refine sd ?_)
        refine call_of (h23 _ sm ho) ?_
        repeat (first | (with_reducible first | refine Ju.go ?_ | (refine Hd.go ?_; intro K Q hK hQ; simp only [nod_tup, List.map_cons, nod2_arr, nd_no, nod2_imm, List.map_nil, e_x20, e_x21, nod_imm, e_not, Bool.not_true, e_cond, Bool.false_eq_true, if_false, List.getD_cons_zero, List.getD_cons_succ, nod_cptr, e_ldcA, lv_cons, List.length_nil, Nat.zero_add, Nat.reduceAdd, true_and, nod_agg, nodL_imm, nodL_arr]; subst hK hQ) | refine Jr.go ?_) | refine sd ?_)
        refine call_of (h24 _ sm ho) ?_
        repeat (first | (with_reducible first | refine Ju.go ?_ | (refine Hd.go ?_; intro K Q hK hQ; simp only [nod_tup, List.map_cons, nod2_arr, nd_no, nod2_imm, List.map_nil, e_x20, e_x21, List.getD_cons_succ, List.getD_cons_zero, nod_imm, Try.underlying29, e_neq, decide_true, Bool.not_true, e_gF, cond_false, j_one, nod_arr]; subst hK hQ) | refine Jr.go ?_) | refine sd ?_)
        rw [tx_tb]
        refine call_of (c25 _ _ _ (by rw [List.length_map]; omega)) ?_
        rw [decide_eq_true rfl]
        have hl1 : ¬ ((l.map Sd.x).length : Int) < 1 := by rw [List.length_map]; omega
        have hl2 : ¬ ((l.length : Nat) : Int) < 1 := by omega
        repeat (first | (with_reducible first | refine Ju.go ?_ | (refine Hd.go ?_; intro K Q hK hQ; simp only [nod_imm, e_not, Bool.not_true, List.getD_cons_succ, List.getD_cons_zero, nod_arr, nd_no, Try.underlying3, e_lenA, List.length_map, e_neq, decide_true, e_gF, cond_false, j_one, e_lss, hl2, decide_false, e_cond, Bool.false_eq_true, if_false]; subst hK hQ) | refine Jr.go ?_) | refine sd ?_)
        refine loop_of (fun i : Nat => i ≤ l.length) (fun i => [sds l .no, sds l .no, I i]) (fun _ => H) (fun i => l.length - i) 0 (Nat.zero_le _) rfl rfl ?_
        intro i hi
        repeat (first | (with_reducible first | refine Ju.go ?_ | (refine Hd.go ?_; intro K Q hK hQ; simp only [List.getD_cons_succ, List.getD_cons_zero, nod_arr, nd_no, e_lenA, List.length_map, nod_imm, Try.underlying3, e_lss, e_cond, decide_eq_true_eq]; subst hK hQ) | refine Jr.go ?_) | refine sd ?_)
        by_cases hlt : i < l.length
        · have d : (i : Int) < l.length := by omega
          repeat (first | (with_reducible first | refine Ju.go ?_ | (refine Hd.go ?_; intro K Q hK hQ; simp only [d, if_true, List.getD_cons_zero, nod_arr, nd_no, List.getD_cons_succ, nod_imm, ix_sd, Int.toNat_natCast, true_and, nod_cptr, e_ldcA, lv_cons, List.length_nil, Nat.zero_add, Nat.reduceAdd, nod_agg, List.map_cons, nodL_imm, List.map_nil, eq50n, e_cond, Bool.false_eq_true, if_false, Try.underlying3, e_add]; subst hK hQ) | refine Jr.go ?_) | refine sd ?_)
          exact ⟨i + 1, by omega, rfl, rfl, by omega⟩
        · have d : ¬ (i : Int) < l.length := by omega
          repeat (first | (with_reducible first | refine Ju.go ?_ | (refine Hd.go ?_; intro K Q hK hQ; simp only [d, if_false]; subst hK hQ) | refine Jr.go ?_) | refine sd ?_)
          refine call_of (c15 _) ?_
          repeat (first | (with_reducible first | refine Ju.go ?_ | (refine Hd.go ?_; intro K Q hK hQ; simp only [Try.underlying3, Try.underlying4, Try.underlying5, Try.underlying9, Try.underlying29, Try.underlying57, Try.underlying55, j_one, j_side, j_tl, j_fl, nod_nod, nod_imm, nod_ints, nd_no, nd_own, nd_full, nd_fO, oF_ap, oF_succ, nod_sl, nod_ptr, nod_cptr, nod_fn, nod_junk, nodL_imm, nod_agg, nod_tup, nod2_imm, nod2_agg, cl_imm, cl_ints, cl_agg, e_add, e_sub, e_mul, e_quo, e_rem, e_eql, e_neq, e_lss, e_leq, e_gtr, e_geq, e_beq, e_bne, e_neg, e_not, e_pick, e_cond, e_gT, e_gF, e_len, e_lenA, e_lenS, e_ix, e_ixS, e_ldc, e_ldci, e_fa, rep_cl, rep_I, e_bx, okE_I, okE_B, okE_E8, okE_ints, stV_imm, stV_ints, j_and', j_or', List.getD_cons_zero, List.getD_cons_succ, List.map_cons, List.map_nil, decide_eq_true_eq, Int.toNat_natCast, Nat.mul_one, Nat.zero_add, true_and, and_true, List.length_map, Bool.not_eq_true', decide_eq_false_iff_not, nod_lists, e_lenL, e_ixL, okE_lists, bs1, bs1L, bs2L, e_app, e_appL, e_app0, e_app0L, e_slcLo, e_slcHi, e_slcLH, e_slcHH, e_slcLHH, e_callG, e_callY, e_calmG, e_slS0, e_slSLo, e_slSHi, e_slSLH, e_slSHH, e_slSLHH, e_max2, e_min2, e_max3, e_x20, e_x21, e_x30, e_x31, e_x32, nod2_ints, nod2_lists, rep_fl, bs0, e_nilE, if_true, if_false, cond_true, cond_false, decide_true, decide_false, eq_self, Bool.false_eq_true, false_implies, true_implies, ap_own, ap_full, e_slcLoL, e_slcHiL, e_slcLHL, hp_assoc, hp_cons, hp_nil, hp_len, hp_len_cons, hp_len_nil, lv_cons, lv_nil, vs_0, vs_s, spl_s, spl_0, spl_n, dr_s, dr_0, tk_s, tk_0, e_bxI, e_fac, e_facA, e_ldcA, e_ldcL, e_ldcF, okE_agg, ck_I, ck_B, ck_ints, ck_lists, ck_arr, ck_ptr, ck_cptr, ck_fn, all_c, all_n, stV_agg, stV_lists, stV_arr, stV_ptr, stV_cptr, stV_fn, nodL_ints, nodL_lists, nodL_ptr, nodL_cptr, nodL_fn, nodL_arr0, cl_arr, cl_ptr, cl_cptr, cl_fn, cl_lists, okE_arr, okE_fn, okE_ptr, okE_cptr, e_bd0, e_bd1, e_wr, Nat.reduceAdd, Nat.reduceLeDiff, Nat.reduceEqDiff, Nat.add_zero, Bool.and_self, Bool.true_and, Bool.and_true, e_lc0, e_lA0, e_lM0, e_sc0, e_rc0, e_rA0, e_lI0, e_sI0, e_cI0, e_lc1, e_lA1, e_lM1, e_sc1, e_rc1, e_rA1, e_lI1, e_sI1, e_cI1, e_lc2, e_lA2, e_lM2, e_sc2, e_rc2, e_rA2, e_lI2, e_sI2, e_cI2, e_lc3, e_lA3, e_lM3, e_sc3, e_rc3, e_rA3, e_lI3, e_sI3, e_cI3, e_lc4, e_lA4, e_lM4, e_sc4, e_rc4, e_rA4, e_lI4, e_sI4, e_cI4, e_lc5, e_lA5, e_lM5, e_sc5, e_rc5, e_rA5, e_lI5, e_sI5, e_cI5, own0_arr, own0_ints, own0_lists, own0_imm, own0_ptr, own0_cptr, own0_fn, own0_agg, e_appB, e_appB0, ck_sl, own0_sl, stV_sl, nodL_sl, cl_sl, okE_sl, e_mkM, e_mkI, e_mkIm, e_callB, nod_bfn, nod_ifc, nod_map, nodL_ifc, nodL_bfn, nodL_map, cl_ifc, cl_bfn, ck_ifc, ck_bfn, ck_map, stV_ifc, okE_ifc, okE_bfn, nod_arr, nodL_arr, e_addU, e_mulU, e_shrK, e_shlK, e_andK, e_cv64, e_cv32, e_callEG, e_callEY, e_callEB, e_zr, e_nilSl, e_ncP, e_ncC, e_npnP, e_npeP, e_npnC, e_npeC, e_npnN, e_npeN, e_ixAP, e_ldcP, e_ldcS, e_ldcV, e_ldcT, okE_nilP, ck_nilP, okE_nilI, ck_nilI, okE_str, ck_str, e_tlen, e_tix, e_teq, e_tne, e_tadd, e_tb, e_u8lss, e_u8gtr, noV_full, nod_arr, List.length_map, reduceIte, Int.reduceEq, Int.reduceNeg, ne_eq, not_true_eq_false, not_false_eq_true, Bool.not_true, Bool.not_false, Bool.true_or, Bool.or_true, Bool.false_or, Bool.or_false, Bool.and_true, Bool.and_false, Bool.false_and, Bool.not_not, Bool.or_self, List.length_nil, Int.ofNat_zero, Int.cast_ofNat_Int, Int.natCast_zero, beq_self_eq_true, Bool.true_eq_false]; subst hK hQ) | refine Jr.go ?_) | refine sd ?_)
          exact end1 (fzI _)
end Go.Proofs.Ytgodfjbmblghnaa


set_option linter.unusedVariables false
set_option linter.unusedSimpArgs false
set_option linter.unnecessarySimpa false
set_option maxRecDepth 20000
set_option maxHeartbeats 2000000
namespace Go.Proofs.Ytgodfjbmblghnaa
open Go Go.Ab Go.Proofs
attribute [local congr] g_bin g_nilS g_nilP g_un g_ext g_bx g_fa g_ld g_st g_ix g_ixA g_slc g_mk g_bs g_bd g_nc g_cv g_len g_lenT g_app g_appB g_cpy g_mm g_call g_callG g_calm g_calmG g_range g_res g_pick g_cond g_loop g_Jv g_eqS g_eqP g_fd g_ixT g_ta g_lkp g_upd g_mkM g_appS g_inv g_callE g_callEG g_invE g_zr g_wr
open Go.ChangeShapes Go.WideShapes Go.ChangeAt Go.RowKit
theorem own : ownKnob Try.prog.godebug = none := by kernel_rfl
theorem laidOut : laidOutB Try.prog = true := by kernel_rfl
set_option maxRecDepth 100000 in
theorem lifted (os : Os) (started : os.Started) (H : Type) (enc : TypeId × Value → H) :
    ReturnsInHanded {} Try.checked os 4 .any (Rows.numeralSpellsSpec.pre6 enc Try.prog Try.f4 Rows.numeralSpellsRow.domain false) (Rows.numeralSpellsSpec.post enc Try.prog Try.f4 false true false false) := by
  refine returnsInHanded_of_change (C := Try.checked) own started (by kernel_rfl) Try.func4
    (ChangeSpec.witness6 (enc := enc) (C := Try.checked) false ⟨#[], #[.agg #[.int .i64 0, .int .i64 0, .int .i64 0, .int .i64 0, .slice none 0 0, .slice none 0 0, .slice none 0 0], .agg #[.int .i64 0, .int .i64 0, .int .i64 0, .int .i64 0]], []⟩ 8 (by kernel_rfl) (by kernel_rfl) (by kernel_rfl) (by kernel_rfl)) ?_
  intro W base args ds gs before hval0 hW hcnd _
  have hval : ∀ (j : Nat) t v, Try.f4.params[j]? = some t → args[j]? = some v → Value.okWide Try.prog W .any base t v := hval0
  have hW' := hW
  obtain ⟨p, q, hA0, hV, rfl, hfz, hnd⟩ := hW
  have hA : DataW.TrodAll enc Try.prog W 0 (fun _ => true) true Try.f4.params.toList args.toList ds p := hA0
  rw [Try.params4] at hA hval
  obtain ⟨v0, vs0, d0, ds0, p0, q0, hargs, rfl, rfl, h0, r0⟩ := trodAll_cons hA
  obtain ⟨v1, vs1, d1, ds1, p1, q1, rfl, rfl, rfl, h1, r1⟩ := trodAll_cons r0
  obtain ⟨rfl, rfl, rfl⟩ := trodAll_nil r1
  obtain rfl : args = #[v0, v1] := by cases args; simp_all
  obtain ⟨rfl, rfl⟩ := trodVars_none hV
  have lt0 : ∀ x ∈ p0, x.block < W.heap.size := by obtain ⟨m, hm⟩ := h0; exact DataW.trod_lt m _ _ _ hm
  obtain ⟨l0, w0, e0⟩ := in_sys (hval 0 _ v0 rfl rfl) h0
  have lt1 : ∀ x ∈ p1, x.block < W.heap.size := by obtain ⟨m, hm⟩ := h1; exact DataW.trod_lt m _ _ _ hm
  obtain ⟨n1, t1, g1, k1, e1⟩ := in_ask (hval 1 _ v1 rfl rfl) h1
  clear hA0 hval0
  refine (bridge (args := [syV l0, asV n1 t1 g1 k1]) (ra := #[v0, v1]) (c4 l0 n1 t1 g1 k1 [] w0) rfl (by intro a ha; simp at ha; rcases ha with rfl | rfl <;> rfl) (fun i => ?_)).mono fun e W' ⟨he, bel⟩ => ?_
  · match i with
    | 0 => exact e0
    | 1 => exact e1
    | i + 2 => exact .junk _
  · subst he
    exact ⟨_, rfl, _, _, _, [], _, [], hW', trodAll_mk1 (shut_bool Try.underlying4 _), (trodAll_cons_mk (Below.trod laidOut (by kernel_rfl) (of_decide_eq_true (by kernel_rfl)) h0 bel lt0) (trodAll_cons_mk (Below.trod laidOut (by kernel_rfl) (of_decide_eq_true (by kernel_rfl)) h1 bel lt1) trodAll_mk0)), rfl, bel.frame _, fun h => by cases h⟩
theorem over : Rows.numeralSpellsRow.holds Try.pinned (OpenSpec.ofChange Rows.numeralSpellsSpec) :=
  OpenClaim.holds_of_wide 4 Try.f4 rfl rfl rfl rfl rfl rfl rfl ⟨rfl, rfl, rfl, rfl, rfl⟩ rfl rfl rfl rfl rfl (by kernel_rfl) Try.func4 (by kernel_rfl)
    (of_decide_eq_true (by kernel_rfl)) (by unfold Func.isWrapper; first | (rw [if_pos (by decide +kernel)]; kernel_rfl) | (rw [if_neg (by decide +kernel)]; exact ⟨rfl, rfl⟩))
    (fun os started H enc _ => lifted os started H enc)
theorem numeralSpells_holds : Rows.NumeralSpellsSaid := over
#print axioms numeralSpells_holds
end Go.Proofs.Ytgodfjbmblghnaa

