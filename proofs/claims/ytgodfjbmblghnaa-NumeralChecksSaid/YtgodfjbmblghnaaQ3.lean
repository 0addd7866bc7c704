/- NumeralChecks: the program and the document agree which systems are as defined, and on the class of any number; no condition. -/
import Derived.Test.YtgodfjbmblghnaaP6
import Derived.Test.YtgodfjbmblghnaaProg
import Derived.Test.YtgodfjbmblghnaaRows
set_option linter.unusedVariables false
set_option maxRecDepth 20000
set_option maxHeartbeats 4000000
namespace Go.Proofs.Ytgodfjbmblghnaa
open Go Go.Ab Go.Proofs
def an3 : An := { imm := [2], jn := [(4, [1, 2, 5, 6]), (6, [1, 2, 5, 6]), (10, [1, 2, 5, 6])], lp := [], loud := [], ord := [] }
def vc3 (C : Cb) (a0 a1 : V) (H : Hp) (R : List V → Hp → Prop) : Prop :=
 C.aBx true 7 a0.nod H fun v1 H2 =>
 C.aLd 7 true false v1.nod H2 fun v3 H4 =>
 C.callE 14 [v3.nod] H4 fun v5 H6 =>
 C.aUn .not v5.nod fun v7 =>
 aCond v7.nod (
 C.callE 15 [] H6 fun v8 H9 =>
 R [v8] H9) (
 Jn (fun l10 H11 =>
 Jn (fun l13 H14 =>
 C.aLd 7 true false (l13.getD 1 .junk).nod H14 fun v16 H17 =>
 C.callE 18 [v16.nod] H17 fun v18 H19 =>
 C.aBin (Try.prog.underlying 29) .neq v18.nod (I 0) fun v20 =>
 aCond v20.nod (
 R [(B false)] H19) (
 Jn (fun l21 H22 =>
 C.aBin (Try.prog.underlying 29) .eql (l21.getD 3 .junk).nod.nod (I 0) fun v24 =>
 Jv (fun v25 H26 =>
 Jv (fun v33 H34 =>
 R [v33] H34)
 (fun R35 =>
 aG v25.nod true (
 C.callE 15 [] H26 fun v36 H37 =>
 R35 v36.nod H37) (
 R35 (B false) H26)))
 (fun R27 =>
 aG v24.nod true (
 C.aLd 7 true false (l21.getD 1 .junk).nod H22 fun v28 H29 =>
 C.callE 19 [v28.nod, (l21.getD 0 .junk).nod.nod] H29 fun v30 H31 =>
 C.aBin (Try.prog.underlying 3) .eql (l21.getD 2 .junk).nod.nod v30.nod fun v32 =>
 R27 v32.nod H31) (
 R27 (B false) H22)))
 (fun R23 =>
 C.aBin (Try.prog.underlying 3) .lss (l13.getD 0 .junk).nod.nod (I 0) fun v38 =>
 aCond v38.nod (
 C.aBin (Try.prog.underlying 29) .eql (l13.getD 3 .junk).nod.nod (I 2) fun v39 =>
 Jv (fun v40 H41 =>
 Jv (fun v44 H45 =>
 R [v44] H45)
 (fun R46 =>
 aG v40.nod true (
 C.callE 15 [] H41 fun v47 H48 =>
 R46 v47.nod H48) (
 R46 (B false) H41)))
 (fun R42 =>
 aG v39.nod true (
 C.aBin (Try.prog.underlying 3) .eql (l13.getD 2 .junk).nod.nod (I 0) fun v43 =>
 R42 v43.nod H19) (
 R42 (B false) H19))) (
 R23 [(l13.getD 0 .junk), (l13.getD 1 .junk), (l13.getD 2 .junk), (l13.getD 3 .junk)] H19))))
 (fun R15 =>
 C.aLd 7 true false (l10.getD 1 .junk).nod H11 fun v49 H50 =>
 C.callE 17 [v49.nod] H50 fun v51 H52 =>
 C.aUn .not v51.nod fun v53 =>
 aCond v53.nod (
 C.aLd 7 true false (l10.getD 1 .junk).nod H52 fun v54 H55 =>
 C.callE 18 [v54.nod] H55 fun v56 H57 =>
 C.aBin (Try.prog.underlying 29) .eql v56.nod (I 2) fun v58 =>
 Jv (fun v59 H60 =>
 Jv (fun v63 H64 =>
 Jv (fun v67 H68 =>
 R [v67] H68)
 (fun R69 =>
 aG v63.nod true (
 C.callE 15 [] H64 fun v70 H71 =>
 R69 v70.nod H71) (
 R69 (B false) H64)))
 (fun R65 =>
 aG v59.nod true (
 C.aBin (Try.prog.underlying 3) .eql (l10.getD 2 .junk).nod.nod (I 0) fun v66 =>
 R65 v66.nod H60) (
 R65 (B false) H60)))
 (fun R61 =>
 aG v58.nod true (
 C.aBin (Try.prog.underlying 29) .eql (l10.getD 3 .junk).nod.nod (I 2) fun v62 =>
 R61 v62.nod H57) (
 R61 (B false) H57))) (
 R15 [(l10.getD 0 .junk), (l10.getD 1 .junk), (l10.getD 2 .junk), (l10.getD 3 .junk)] H52)))
 (fun R12 =>
 C.aLd 7 true false v1.nod H6 fun v72 H73 =>
 C.callE 16 [v72.nod, a1.nod.nod] H73 fun v74 H75 =>
 C.aExt 0 v74.nod.nod fun v76 =>
 C.aExt 1 v74.nod.nod fun v77 =>
 R12 [a1, v1, v76, v77] H75))
theorem wf3 : (Nat.ble 2 Try.f3.ntmps && wfC an3 Try.f3.ntmps (Try.f3.body.getD .skip)) = true := by kernel_rfl
theorem tie3 (C : Cb) (a0 a1 : V) (H : Hp) (R : List V → Hp → Prop) : wpG Try.prog C an3 (Try.f3.body.getD .skip) (argF [a0, a1]) H (retG Try.prog C Try.f3 R) (fun _ _ _ => False) (retG Try.prog C Try.f3 R) = vc3 C a0 a1 H R := by kernel_rfl
theorem mk3 (a0 a1 : V) {H : Hp} {v : V} {H1 : Hp} (hd : v.Nd) (hn : H.length ≤ H1.length) (hb : H1 = H ∨ ∀ (b : Nat) (blk : Blk), H1[b]? = some blk → H[b]? = some blk ∨ BelB H1.length blk) (h : vc3 (real Try.prog) a0 a1 H (retF v H1)) : Ret Try.prog 3 [a0, a1] H v H1 :=
  ret_mk (an := an3) hm Try.call3 Try.func3 rfl wf3 hd hn hb (Eq.mpr (tie3 (real Try.prog) a0 a1 H (retF v H1)) h)
theorem mkE3 (a0 a1 : V) {H : Hp} {Q : V → Hp → Prop} (h : vc3 (real Try.prog) a0 a1 H (retW Q)) : RetE Try.prog 3 [a0, a1] H Q :=
  retE_mk (an := an3) hm Try.call3 Try.func3 rfl wf3 (Eq.mpr (tie3 (real Try.prog) a0 a1 H (retW Q)) h)
theorem mko3 (a0 a1 : V) {H : Hp} {xs : List V} {H1 : Hp} (hn : H.length ≤ H1.length) (hb : H1 = H ∨ ∀ (b : Nat) (blk : Blk), H1[b]? = some blk → H[b]? = some blk ∨ BelB H1.length blk) (h : vc3 (real Try.prog) a0 a1 H (retO xs H1)) : Ret Try.prog 3 [a0, a1] H (.arr xs .own) H1 :=
  ret_mko (an := an3) (t := 4) hm Try.call3 Try.func3 rfl wf3 rfl hn hb (Eq.mpr (tie3 (real Try.prog) a0 a1 H (retO xs H1)) h)
end Go.Proofs.Ytgodfjbmblghnaa


set_option linter.unusedVariables false
set_option linter.unusedSimpArgs false
set_option linter.unnecessarySimpa false
set_option maxRecDepth 20000
set_option maxHeartbeats 2000000
namespace Go.Proofs.Ytgodfjbmblghnaa
open Go Go.Ab Go.Proofs
attribute [local congr] g_bin g_nilS g_nilP g_un g_ext g_bx g_fa g_ld g_st g_ix g_ixA g_slc g_mk g_bs g_bd g_nc g_cv g_len g_lenT g_app g_appB g_cpy g_mm g_call g_callG g_calm g_calmG g_range g_res g_pick g_cond g_loop g_Jv g_eqS g_eqP g_fd g_ixT g_ta g_lkp g_upd g_mkM g_appS g_inv g_callE g_callEG g_invE g_zr g_wr
theorem c3 (s : Sy) (n : Int) (H : Hp) (sm : Sm s) : Ret Try.prog 3 [syV s, I n] H (B true) H := by
  refine mk3 _ _ rfl (Nat.le_refl _) (.inl rfl) ?_
  simp only [vc3, real]
  repeat (first | (with_reducible first | refine Ju.go ?_ | (refine Hd.go ?_; intro K Q hK hQ; simp only [nod_agg, List.map_cons, nodL_imm, nodL_arr, nd_no, List.map_nil, e_bxI, okE_agg, lv_cons, List.length_nil, Nat.zero_add, Nat.reduceAdd, all_c, ck_I, ck_arr, all_n, Bool.and_self, and_true, true_and, nod_cptr, e_ldcA]; subst hK hQ) | refine Jr.go ?_) | refine sd ?_)
  refine callE_of (c14 s H sm) fun v H1 ⟨hH, b, hv⟩ => ?_
  subst hv hH
  cases b
  · repeat (first | (with_reducible first | refine Ju.go ?_ | (refine Hd.go ?_; intro K Q hK hQ; simp only [nod_imm, e_not, Bool.not_false, e_cond, if_true]; subst hK hQ) | refine Jr.go ?_) | refine sd ?_)
    refine call_of (c15 _) ?_
    repeat (first | (with_reducible first | refine Ju.go ?_ | (refine Hd.go ?_; intro K Q hK hQ; simp only [Try.underlying3, Try.underlying4, Try.underlying5, Try.underlying9, Try.underlying29, Try.underlying57, Try.underlying55, j_one, j_side, j_tl, j_fl, nod_nod, nod_imm, nod_ints, nd_no, nd_own, nd_full, nd_fO, oF_ap, oF_succ, nod_sl, nod_ptr, nod_cptr, nod_fn, nod_junk, nodL_imm, nod_agg, nod_tup, nod2_imm, nod2_agg, cl_imm, cl_ints, cl_agg, e_add, e_sub, e_mul, e_quo, e_rem, e_eql, e_neq, e_lss, e_leq, e_gtr, e_geq, e_beq, e_bne, e_neg, e_not, e_pick, e_cond, e_gT, e_gF, e_len, e_lenA, e_lenS, e_ix, e_ixS, e_ldc, e_ldci, e_fa, rep_cl, rep_I, e_bx, okE_I, okE_B, okE_E8, okE_ints, stV_imm, stV_ints, j_and', j_or', List.getD_cons_zero, List.getD_cons_succ, List.map_cons, List.map_nil, decide_eq_true_eq, Int.toNat_natCast, Nat.mul_one, Nat.zero_add, true_and, and_true, List.length_map, Bool.not_eq_true', decide_eq_false_iff_not, nod_lists, e_lenL, e_ixL, okE_lists, bs1, bs1L, bs2L, e_app, e_appL, e_app0, e_app0L, e_slcLo, e_slcHi, e_slcLH, e_slcHH, e_slcLHH, e_callG, e_callY, e_calmG, e_slS0, e_slSLo, e_slSHi, e_slSLH, e_slSHH, e_slSLHH, e_max2, e_min2, e_max3, e_x20, e_x21, e_x30, e_x31, e_x32, nod2_ints, nod2_lists, rep_fl, bs0, e_nilE, if_true, if_false, cond_true, cond_false, decide_true, decide_false, eq_self, Bool.false_eq_true, false_implies, true_implies, ap_own, ap_full, e_slcLoL, e_slcHiL, e_slcLHL, hp_assoc, hp_cons, hp_nil, hp_len, hp_len_cons, hp_len_nil, lv_cons, lv_nil, vs_0, vs_s, spl_s, spl_0, spl_n, dr_s, dr_0, tk_s, tk_0, e_bxI, e_fac, e_facA, e_ldcA, e_ldcL, e_ldcF, okE_agg, ck_I, ck_B, ck_ints, ck_lists, ck_arr, ck_ptr, ck_cptr, ck_fn, all_c, all_n, stV_agg, stV_lists, stV_arr, stV_ptr, stV_cptr, stV_fn, nodL_ints, nodL_lists, nodL_ptr, nodL_cptr, nodL_fn, nodL_arr0, cl_arr, cl_ptr, cl_cptr, cl_fn, cl_lists, okE_arr, okE_fn, okE_ptr, okE_cptr, e_bd0, e_bd1, e_wr, Nat.reduceAdd, Nat.reduceLeDiff, Nat.reduceEqDiff, Nat.add_zero, Bool.and_self, Bool.true_and, Bool.and_true, e_lc0, e_lA0, e_lM0, e_sc0, e_rc0, e_rA0, e_lI0, e_sI0, e_cI0, e_lc1, e_lA1, e_lM1, e_sc1, e_rc1, e_rA1, e_lI1, e_sI1, e_cI1, e_lc2, e_lA2, e_lM2, e_sc2, e_rc2, e_rA2, e_lI2, e_sI2, e_cI2, e_lc3, e_lA3, e_lM3, e_sc3, e_rc3, e_rA3, e_lI3, e_sI3, e_cI3, e_lc4, e_lA4, e_lM4, e_sc4, e_rc4, e_rA4, e_lI4, e_sI4, e_cI4, e_lc5, e_lA5, e_lM5, e_sc5, e_rc5, e_rA5, e_lI5, e_sI5, e_cI5, own0_arr, own0_ints, own0_lists, own0_imm, own0_ptr, own0_cptr, own0_fn, own0_agg, e_appB, e_appB0, ck_sl, own0_sl, stV_sl, nodL_sl, cl_sl, okE_sl, e_mkM, e_mkI, e_mkIm, e_callB, nod_bfn, nod_ifc, nod_map, nodL_ifc, nodL_bfn, nodL_map, cl_ifc, cl_bfn, ck_ifc, ck_bfn, ck_map, stV_ifc, okE_ifc, okE_bfn, nod_arr, nodL_arr, e_addU, e_mulU, e_shrK, e_shlK, e_andK, e_cv64, e_cv32, e_callEG, e_callEY, e_callEB, e_zr, e_nilSl, e_ncP, e_ncC, e_npnP, e_npeP, e_npnC, e_npeC, e_npnN, e_npeN, e_ixAP, e_ldcP, e_ldcS, e_ldcV, e_ldcT, okE_nilP, ck_nilP, okE_nilI, ck_nilI, okE_str, ck_str, e_tlen, e_tix, e_teq, e_tne, e_tadd, e_tb, e_u8lss, e_u8gtr, noV_full, nod_arr, List.length_map, reduceIte, Int.reduceEq, Int.reduceNeg, ne_eq, not_true_eq_false, not_false_eq_true, Bool.not_true, Bool.not_false, Bool.true_or, Bool.or_true, Bool.false_or, Bool.or_false, Bool.and_true, Bool.and_false, Bool.false_and, Bool.not_not, Bool.or_self, List.length_nil, Int.ofNat_zero, Int.cast_ofNat_Int, Int.natCast_zero, beq_self_eq_true, Bool.true_eq_false]; subst hK hQ) | refine Jr.go ?_) | refine sd ?_)
    exact end1 (fzI _)
  · repeat (first | (with_reducible first | refine Ju.go ?_ | (refine Hd.go ?_; intro K Q hK hQ; simp only [nod_imm, e_not, Bool.not_true, e_cond, Bool.false_eq_true, if_false, nod_cptr, e_ldcA, lv_cons, List.length_nil, Nat.zero_add, Nat.reduceAdd, true_and, nod_agg, List.map_cons, nodL_imm, nodL_arr, nd_no, List.map_nil]; subst hK hQ) | refine Jr.go ?_) | refine sd ?_)
    refine call_of (c16 s n _ sm) ?_
    generalize hcv : (if okSy s = true ∧ 0 ≤ n then clsOf s.pl n else 0) = cv
    generalize hce : (if okSy s = true ∧ 0 ≤ n then (0 : Int) else 2) = ce
    repeat (first | (with_reducible first | refine Ju.go ?_ | (refine Hd.go ?_; intro K Q hK hQ; simp only [nod_tup, List.map_cons, nod2_imm, List.map_nil, e_x20, e_x21, List.getD_cons_succ, List.getD_cons_zero, nod_cptr, e_ldcA, lv_cons, List.length_nil, Nat.zero_add, Nat.reduceAdd, true_and, nod_agg, nodL_imm, nodL_arr, nd_no]; subst hK hQ) | refine Jr.go ?_) | refine sd ?_)
    refine call_of (c17 s _ sm) ?_
    have c18' := c18 s
    generalize hs : (if okSy s = true then (0 : Int) else 2) = e at c18'
    cases ho : okSy s
    · rw [if_neg (by rw [ho]; decide)] at hs
      rw [if_neg (by rw [ho]; simp)] at hcv hce
      subst hs hcv hce
      repeat (first | (with_reducible first | refine Ju.go ?_ | (refine Hd.go ?_; intro K Q hK hQ; simp only [nod_imm, e_not, Bool.not_false, e_cond, if_true, List.getD_cons_succ, List.getD_cons_zero, nod_cptr, e_ldcA, lv_cons, List.length_nil, Nat.zero_add, Nat.reduceAdd, true_and, nod_agg, List.map_cons, nodL_imm, nodL_arr, nd_no, List.map_nil]; subst hK hQ) | refine Jr.go ?_) | refine sd ?_)
      refine call_of (c18' _ sm) ?_
      repeat (first | (with_reducible first | refine Ju.go ?_ | (refine Hd.go ?_; intro K Q hK hQ; simp only [nod_imm, Try.underlying29, e_eql, decide_true, List.getD_cons_succ, List.getD_cons_zero, e_gT, cond_true, j_one, Try.underlying3]; subst hK hQ) | refine Jr.go ?_) | refine sd ?_)
      refine call_of (c15 _) ?_
      repeat (first | (with_reducible first | refine Ju.go ?_ | (refine Hd.go ?_; intro K Q hK hQ; simp only [nod_imm]; subst hK hQ) | refine Jr.go ?_) | refine sd ?_)
      exact end1 (fzI _)
    · rw [if_pos ho] at hs
      subst hs
      repeat (first | (with_reducible first | refine Ju.go ?_ | (refine Hd.go ?_; intro K Q hK hQ; simp only [nod_imm, e_not, Bool.not_true, e_cond, Bool.false_eq_true, if_false, List.getD_cons_zero, List.getD_cons_succ, nod_cptr, e_ldcA, lv_cons, List.length_nil, Nat.zero_add, Nat.reduceAdd, true_and, nod_agg, List.map_cons, nodL_imm, nodL_arr, nd_no, List.map_nil]; subst hK hQ) | refine Jr.go ?_) | refine sd ?_)
      refine call_of (c18' _ sm) ?_
      repeat (first | (with_reducible first | refine Ju.go ?_ | (refine Hd.go ?_; intro K Q hK hQ; simp only [nod_imm, Try.underlying29, e_neq, decide_true, Bool.not_true, e_cond, Bool.false_eq_true, if_false, List.getD_cons_zero, Try.underlying3, e_lss, decide_eq_true_eq]; subst hK hQ) | refine Jr.go ?_) | refine sd ?_)
      by_cases hn : n < 0
      · rw [if_neg (fun h => by omega)] at hcv hce
        subst hcv hce
        repeat (first | (with_reducible first | refine Ju.go ?_ | (refine Hd.go ?_; intro K Q hK hQ; simp only [hn, if_true, List.getD_cons_succ, List.getD_cons_zero, nod_imm, Try.underlying29, e_eql, decide_true, Try.underlying3, e_gT, cond_true, j_one]; subst hK hQ) | refine Jr.go ?_) | refine sd ?_)
        refine call_of (c15 _) ?_
        repeat (first | (with_reducible first | refine Ju.go ?_ | (refine Hd.go ?_; intro K Q hK hQ; simp only [nod_imm]; subst hK hQ) | refine Jr.go ?_) | refine sd ?_)
        exact end1 (fzI _)
      · rw [if_pos ⟨ho, by omega⟩] at hcv hce
        subst hcv hce
        repeat (first | (with_reducible first | refine Ju.go ?_ | (refine Hd.go ?_; intro K Q hK hQ; simp only [hn, if_false, List.getD_cons_zero, List.getD_cons_succ, nod_imm, Try.underlying29, e_eql, decide_true, nod_cptr, Try.underlying3, e_ldcA, lv_cons, List.length_nil, Nat.zero_add, Nat.reduceAdd, nod_agg, List.map_cons, nodL_imm, nodL_arr, nd_no, List.map_nil, true_and, e_gT, cond_true]; subst hK hQ) | refine Jr.go ?_) | refine sd ?_)
        refine call_of (c19 s n _ sm (okSy.mod ho)) ?_
        repeat (first | (with_reducible first | refine Ju.go ?_ | (refine Hd.go ?_; intro K Q hK hQ; simp only [nod_imm, e_eql, decide_true, e_gT, cond_true]; subst hK hQ) | refine Jr.go ?_) | refine sd ?_)
        refine call_of (c15 _) ?_
        repeat (first | (with_reducible first | refine Ju.go ?_ | (refine Hd.go ?_; intro K Q hK hQ; simp only [nod_imm]; subst hK hQ) | refine Jr.go ?_) | refine sd ?_)
        exact end1 (fzI _)
end Go.Proofs.Ytgodfjbmblghnaa


set_option linter.unusedVariables false
set_option linter.unusedSimpArgs false
set_option linter.unnecessarySimpa false
set_option maxRecDepth 20000
set_option maxHeartbeats 2000000
namespace Go.Proofs.Ytgodfjbmblghnaa
open Go Go.Ab Go.Proofs
attribute [local congr] g_bin g_nilS g_nilP g_un g_ext g_bx g_fa g_ld g_st g_ix g_ixA g_slc g_mk g_bs g_bd g_nc g_cv g_len g_lenT g_app g_appB g_cpy g_mm g_call g_callG g_calm g_calmG g_range g_res g_pick g_cond g_loop g_Jv g_eqS g_eqP g_fd g_ixT g_ta g_lkp g_upd g_mkM g_appS g_inv g_callE g_callEG g_invE g_zr g_wr
open Go.ChangeShapes Go.WideShapes Go.ChangeAt Go.RowKit
theorem own : ownKnob Try.prog.godebug = none := by kernel_rfl
theorem laidOut : laidOutB Try.prog = true := by kernel_rfl
set_option maxRecDepth 100000 in
theorem lifted (os : Os) (started : os.Started) (H : Type) (enc : TypeId × Value → H) :
    ReturnsInHanded {} Try.checked os 3 .any (Rows.numeralChecksSpec.pre6 enc Try.prog Try.f3 Rows.numeralChecksRow.domain false) (Rows.numeralChecksSpec.post enc Try.prog Try.f3 false true false false) := by
  refine returnsInHanded_of_change (C := Try.checked) own started (by kernel_rfl) Try.func3
    (ChangeSpec.witness6 (enc := enc) (C := Try.checked) false ⟨#[], #[.agg #[.int .i64 0, .int .i64 0, .int .i64 0, .int .i64 0, .slice none 0 0, .slice none 0 0, .slice none 0 0], .int .i64 0], []⟩ 8 (by kernel_rfl) (by kernel_rfl) (by kernel_rfl) (by kernel_rfl)) ?_
  intro W base args ds gs before hval0 hW hcnd _
  have hval : ∀ (j : Nat) t v, Try.f3.params[j]? = some t → args[j]? = some v → Value.okWide Try.prog W .any base t v := hval0
  have hW' := hW
  obtain ⟨p, q, hA0, hV, rfl, hfz, hnd⟩ := hW
  have hA : DataW.TrodAll enc Try.prog W 0 (fun _ => true) true Try.f3.params.toList args.toList ds p := hA0
  rw [Try.params3] at hA hval
  obtain ⟨v0, vs0, d0, ds0, p0, q0, hargs, rfl, rfl, h0, r0⟩ := trodAll_cons hA
  obtain ⟨v1, vs1, d1, ds1, p1, q1, rfl, rfl, rfl, h1, r1⟩ := trodAll_cons r0
  obtain ⟨rfl, rfl, rfl⟩ := trodAll_nil r1
  obtain rfl : args = #[v0, v1] := by cases args; simp_all
  obtain ⟨rfl, rfl⟩ := trodVars_none hV
  have lt0 : ∀ x ∈ p0, x.block < W.heap.size := by obtain ⟨m, hm⟩ := h0; exact DataW.trod_lt m _ _ _ hm
  obtain ⟨l0, w0, e0⟩ := in_sys (hval 0 _ v0 rfl rfl) h0
  have lt1 : ∀ x ∈ p1, x.block < W.heap.size := by obtain ⟨m, hm⟩ := h1; exact DataW.trod_lt m _ _ _ hm
  obtain ⟨n1, e1, w1⟩ := in_int Try.underlying3 (hval 1 _ v1 rfl rfl) h1
  clear hA0 hval0
  refine (bridge (args := [syV l0, I n1]) (ra := #[v0, v1]) (c3 l0 n1 [] w0) rfl (by intro a ha; simp at ha; rcases ha with rfl | rfl <;> rfl) (fun i => ?_)).mono fun e W' ⟨he, bel⟩ => ?_
  · match i with
    | 0 => exact e0
    | 1 => exact e1
    | i + 2 => exact .junk _
  · subst he
    exact ⟨_, rfl, _, _, _, [], _, [], hW', trodAll_mk1 (shut_bool Try.underlying4 _), (trodAll_cons_mk (Below.trod laidOut (by kernel_rfl) (of_decide_eq_true (by kernel_rfl)) h0 bel lt0) (trodAll_cons_mk (Below.trod laidOut (by kernel_rfl) (of_decide_eq_true (by kernel_rfl)) h1 bel lt1) trodAll_mk0)), rfl, bel.frame _, fun h => by cases h⟩
theorem over : Rows.numeralChecksRow.holds Try.pinned (OpenSpec.ofChange Rows.numeralChecksSpec) :=
  OpenClaim.holds_of_wide 3 Try.f3 rfl rfl rfl rfl rfl rfl rfl ⟨rfl, rfl, rfl, rfl, rfl⟩ rfl rfl rfl rfl rfl (by kernel_rfl) Try.func3 (by kernel_rfl)
    (of_decide_eq_true (by kernel_rfl)) (by unfold Func.isWrapper; first | (rw [if_pos (by decide +kernel)]; kernel_rfl) | (rw [if_neg (by decide +kernel)]; exact ⟨rfl, rfl⟩))
    (fun os started H enc _ => lifted os started H enc)
theorem numeralChecks_holds : Rows.NumeralChecksSaid := over
#print axioms numeralChecks_holds
end Go.Proofs.Ytgodfjbmblghnaa

