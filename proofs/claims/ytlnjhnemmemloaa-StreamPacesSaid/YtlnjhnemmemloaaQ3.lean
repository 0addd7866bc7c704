/- A piece at any pace, or the error: true for every input. -/
import Derived.Test.YtlnjhnemmemloaaP6
import Derived.Test.YtlnjhnemmemloaaProg
import Derived.Test.YtlnjhnemmemloaaRows
set_option linter.unusedVariables false
set_option maxRecDepth 20000
set_option maxHeartbeats 4000000
namespace Go.Proofs.Ytlnjhnemmemloaa
open Go Go.Ab Go.Proofs
def an3 : An := { imm := [2, 3, 5], jn := [(4, [2, 3, 5, 6]), (5, [2, 3, 5, 6, 24])], lp := [], loud := [42, 45], ord := [] }
def vc3 (C : Cb) (a0 a1 : V) (H : Hp) (R : List V → Hp → Prop) : Prop :=
 C.aBx true 6 a0.nod H fun v1 H2 =>
 C.aBx true 2 a1.nod H2 fun v3 H4 =>
 C.aLd 6 true false v1.nod H4 fun v5 H6 =>
 C.callE 14 [v5.nod] H6 fun v7 H8 =>
 C.aUn .not v7.nod fun v9 =>
 aCond v9.nod (
 C.callE 15 [] H8 fun v10 H11 =>
 R [v10] H11) (
 Jn (fun l12 H13 =>
 Jn (fun l15 H16 =>
 aCond (l15.getD 4 .junk).nod (
 C.aBin (Try.prog.underlying 30) .eql (l15.getD 3 .junk).nod.nod (I 2) fun v18 =>
 Jv (fun v19 H20 =>
 Jv (fun v27 H28 =>
 R [v27] H28)
 (fun R29 =>
 aG v19.nod true (
 C.callE 15 [] H20 fun v30 H31 =>
 R29 v30.nod H31) (
 R29 (B false) H20)))
 (fun R21 =>
 aG v18.nod true (
 C.aLd 6 true false (l15.getD 2 .junk).nod H16 fun v22 H23 =>
 C.aBd [(I 0), (I 0), (V.arr [] .full), (V.arr [] .full), (V.arr [] .full), (I 0)] [] fun v24 =>
 C.callE 19 [v22.nod, v24.nod] H23 fun v25 H26 =>
 R21 v25.nod H26) (
 R21 (B false) H16))) (
 C.aBin (Try.prog.underlying 30) .eql (l15.getD 3 .junk).nod.nod (I 0) fun v32 =>
 Jv (fun v33 H34 =>
 Jv (fun v45 H46 =>
 R [v45] H46)
 (fun R47 =>
 aG v33.nod true (
 C.call 15 [] H34 fun v48 H49 =>
 R47 v48.nod H49) (
 R47 (B false) H34)))
 (fun R35 =>
 aG v32.nod true (
 C.aLd 6 true false (l15.getD 2 .junk).nod H16 fun v36 H37 =>
 C.aLd 6 true false (l15.getD 0 .junk).nod H37 fun v38 H39 =>
 C.aLd 2 true false (l15.getD 1 .junk).nod H39 fun v40 H41 =>
 C.calm 20 [v38.nod, v40.nod] H41 fun v42 =>
 C.call 19 [v36.nod, v42.nod] H41 fun v43 H44 =>
 R35 v43.nod H44) (
 R35 (B false) H16))))
 (fun R17 =>
 C.aLd 6 true false (l12.getD 0 .junk).nod H13 fun v50 H51 =>
 C.callE 17 [v50.nod] H51 fun v52 H53 =>
 C.aUn .not v52.nod fun v54 =>
 Jv (fun v55 H56 =>
 R17 [(l12.getD 0 .junk), (l12.getD 1 .junk), (l12.getD 2 .junk), (l12.getD 3 .junk), v55] H56)
 (fun R57 =>
 aG v54.nod false (
 C.aLd 2 true false (l12.getD 1 .junk).nod H53 fun v58 H59 =>
 C.callE 18 [v58.nod] H59 fun v60 H61 =>
 C.aUn .not v60.nod fun v62 =>
 R57 v62.nod H61) (
 R57 (B true) H53))))
 (fun R14 =>
 C.aLd 6 true false v1.nod H8 fun v63 H64 =>
 C.aLd 2 true false v3.nod H64 fun v65 H66 =>
 C.callE 16 [v63.nod, v65.nod] H66 fun v67 H68 =>
 C.aExt 0 v67.nod.nod fun v69 =>
 C.aExt 1 v67.nod.nod fun v70 =>
 C.aBx true 6 v69.nod H68 fun v71 H72 =>
 R14 [v1, v3, v71, v70] H72))
theorem wf3 : (Nat.ble 2 Try.f3.ntmps && wfC an3 Try.f3.ntmps (Try.f3.body.getD .skip)) = true := by kernel_rfl
theorem tie3 (C : Cb) (a0 a1 : V) (H : Hp) (R : List V → Hp → Prop) : wpG Try.prog C an3 (Try.f3.body.getD .skip) (argF [a0, a1]) H (retG Try.prog C Try.f3 R) (fun _ _ _ => False) (retG Try.prog C Try.f3 R) = vc3 C a0 a1 H R := by kernel_rfl
theorem mk3 (a0 a1 : V) {H : Hp} {v : V} {H1 : Hp} (hd : v.Nd) (hn : H.length ≤ H1.length) (hb : H1 = H ∨ ∀ (b : Nat) (blk : Blk), H1[b]? = some blk → H[b]? = some blk ∨ BelB H1.length blk) (h : vc3 (real Try.prog) a0 a1 H (retF v H1)) : Ret Try.prog 3 [a0, a1] H v H1 :=
 ret_mk (an := an3) hm Try.call3 Try.func3 rfl wf3 hd hn hb (Eq.mpr (tie3 (real Try.prog) a0 a1 H (retF v H1)) h)
theorem mkE3 (a0 a1 : V) {H : Hp} {Q : V → Hp → Prop} (h : vc3 (real Try.prog) a0 a1 H (retW Q)) : RetE Try.prog 3 [a0, a1] H Q :=
 retE_mk (an := an3) hm Try.call3 Try.func3 rfl wf3 (Eq.mpr (tie3 (real Try.prog) a0 a1 H (retW Q)) h)
theorem mko3 (a0 a1 : V) {H : Hp} {xs : List V} {H1 : Hp} (hn : H.length ≤ H1.length) (hb : H1 = H ∨ ∀ (b : Nat) (blk : Blk), H1[b]? = some blk → H[b]? = some blk ∨ BelB H1.length blk) (h : vc3 (real Try.prog) a0 a1 H (retO xs H1)) : Ret Try.prog 3 [a0, a1] H (.arr xs .own) H1 :=
 ret_mko (an := an3) (t := 4) hm Try.call3 Try.func3 rfl wf3 rfl hn hb (Eq.mpr (tie3 (real Try.prog) a0 a1 H (retO xs H1)) h)
end Go.Proofs.Ytlnjhnemmemloaa
set_option linter.unusedSimpArgs false
set_option linter.unnecessarySimpa false
set_option maxHeartbeats 2000000
namespace Go.Proofs.Ytlnjhnemmemloaa
open Go Go.Ab Go.Proofs
attribute [local congr] g_bin g_nilS g_nilP g_un g_ext g_bx g_fa g_ld g_st g_ix g_ixA g_slc g_mk g_bs g_bd g_nc g_cv g_len g_lenT g_app g_appB g_cpy g_mm g_call g_callG g_calm g_calmG g_range g_res g_pick g_cond g_loop g_Jv g_eqS g_eqP g_fd g_ixT g_ta g_lkp g_upd g_mkM g_appS g_inv g_callE g_callEG g_invE g_zr g_wr
abbrev zSp : Spc := ⟨0, 0, [], [], [], 0⟩
abbrev zSpV : V := .agg [I 0, I 0, .arr [] .full, .arr [] .full, .arr [] .full, I 0]
theorem c19z (H : Hp) : Ret Try.prog 19 [spV zSp, zSpV] H (B true) H := by
 refine mk19 _ _ rfl (Nat.le_refl _) (.inl rfl) ?_
 simp only [vc19, real]
 repeat (first | (with_reducible first | refine Ju.go ?_ | (refine Hd.go ?_; intro K Q hK hQ; simp only [nod_agg, List.map_nil, List.map_cons, nodL_imm, nodL_ints, nd_no, nodL_arr, e_bxI, okE_agg, lv_cons, List.length_nil, Nat.zero_add, Nat.reduceAdd, all_c, ck_I, ck_ints, ck_arr, all_n, Bool.and_self, and_true, true_and, nd_full, nod_cptr, e_fac, Nat.reduceLeDiff, List.getD_cons_zero, e_ldc, nod_imm, Try.underlying3, e_neq, decide_true, Bool.not_true, List.getD_cons_succ, e_gF, cond_false, j_one, e_ldcV, nod_arr, e_ldci, nod_ints]; subst hK hQ) | refine Jr.go ?_) | refine sd ?_)
 refine call_of (c24 [] [] .no .full _ (by decide) (.inl rfl) (.inr rfl)) ?_
 repeat (first | (with_reducible first | refine Ju.go ?_ | (refine Hd.go ?_; intro K Q hK hQ; simp only [decide_true, nod_imm, e_not, Bool.not_true, nod_cptr, e_fac, Nat.reduceAdd, lv_cons, List.length_nil, Nat.zero_add, Nat.reduceLeDiff, List.getD_cons_succ, List.getD_cons_zero, e_ldcV, nod_arr, nd_full, true_and, e_ldci, nod_ints, nd_no, e_gF, cond_false]; subst hK hQ) | refine Jr.go ?_) | refine sd ?_)
 refine call_of (c24 [] [] .no .full _ (by decide) (.inl rfl) (.inr rfl)) ?_
 repeat (first | (with_reducible first | refine Ju.go ?_ | (refine Hd.go ?_; intro K Q hK hQ; simp only [decide_true, nod_imm, e_not, Bool.not_true, nod_cptr, Try.underlying3, e_fac, Nat.reduceAdd, lv_cons, List.length_nil, Nat.zero_add, Nat.reduceLeDiff, List.getD_cons_succ, List.getD_cons_zero, e_ldcV, nod_arr, nd_full, e_lenA, Int.cast_ofNat_Int, true_and, nd_no, e_neq, e_gF, cond_false, j_one, e_cond, Bool.false_eq_true, if_false]; subst hK hQ) | refine Jr.go ?_) | refine sd ?_)
 refine loop_of (fun i : Nat => i = 0) (fun i => [.cptr (spV zSp), .cptr zSpV, I i]) (fun _ => H) (fun _ => 0) 0 rfl rfl rfl ?_
 rintro i rfl
 repeat (first | (with_reducible first | refine Ju.go ?_ | (refine Hd.go ?_; intro K Q hK hQ; simp only [Int.cast_ofNat_Int, List.getD_cons_zero, nod_cptr, e_fac, Nat.reduceAdd, List.map_nil, lv_cons, List.length_nil, Nat.zero_add, Nat.reduceLeDiff, List.getD_cons_succ, true_and, e_ldcV, nod_arr, nd_no, e_lenA, nod_imm, Try.underlying3, e_lss, e_cond, decide_eq_true_eq]; subst hK hQ) | refine Jr.go ?_) | refine sd ?_)
 exact end1 (fzI _)
theorem c3 (p : Spc) (k : Pc) (H : Hp) (sm : Sm p) : Ret Try.prog 3 [spV p, pcV k] H (B true) H := by
 refine mk3 _ _ rfl (Nat.le_refl _) (.inl rfl) ?_
 simp only [vc3, real]
 repeat (first | (with_reducible first | refine Ju.go ?_ | (refine Hd.go ?_; intro K Q hK hQ; simp only [nod_agg, List.map_cons, nodL_imm, nodL_ints, nd_no, nodL_arr, List.map_nil, e_bxI, okE_agg, lv_cons, List.length_nil, Nat.zero_add, Nat.reduceAdd, all_c, ck_I, ck_ints, ck_arr, all_n, Bool.and_self, and_true, true_and, nod_cptr, e_ldcA]; subst hK hQ) | refine Jr.go ?_) | refine sd ?_)
 refine call_of (c14 p _ sm) ?_
 cases hs : smB p
 ·repeat (first | (with_reducible first | refine Ju.go ?_ | (refine Hd.go ?_; intro K Q hK hQ; simp only [nod_imm, e_not, Bool.not_false, e_cond, if_true]; subst hK hQ) | refine Jr.go ?_) | refine sd ?_)
  refine call_of (c15x _) ?_
  repeat (first | (with_reducible first | refine Ju.go ?_ | (refine Hd.go ?_; intro K Q hK hQ; simp only [Try.underlying3, Try.underlying4, Try.underlying5, Try.underlying9, Try.underlying22, Try.underlying23, Try.underlying30, Try.underlying43, Try.underlying44, Try.underlying57, Try.underlying100, Try.underlying124, Try.underlying184, j_one, j_side, j_tl, j_fl, nod_nod, nod_imm, nod_ints, nd_no, nd_own, nd_full, nd_fO, oF_ap, oF_succ, nod_sl, nod_ptr, nod_cptr, nod_fn, nod_junk, nodL_imm, nod_agg, nod_tup, nod2_imm, nod2_agg, cl_imm, cl_ints, cl_agg, e_add, e_sub, e_mul, e_quo, e_rem, e_eql, e_neq, e_lss, e_leq, e_gtr, e_geq, e_beq, e_bne, e_neg, e_not, e_pick, e_cond, e_gT, e_gF, e_len, e_lenA, e_lenS, e_ix, e_ixS, e_ldc, e_ldci, e_fa, rep_cl, rep_I, e_bx, okE_I, okE_B, okE_E8, okE_ints, stV_imm, stV_ints, j_and', j_or', List.getD_cons_zero, List.getD_cons_succ, List.map_cons, List.map_nil, decide_eq_true_eq, Int.toNat_natCast, Nat.mul_one, Nat.zero_add, true_and, and_true, List.length_map, Bool.not_eq_true', decide_eq_false_iff_not, nod_lists, e_lenL, e_ixL, okE_lists, bs1, bs1L, bs2L, e_app, e_appL, e_app0, e_app0L, e_slcLo, e_slcHi, e_slcLH, e_slcHH, e_slcLHH, e_callG, e_callY, e_calmG, e_slS0, e_slSLo, e_slSHi, e_slSLH, e_slSHH, e_slSLHH, e_max2, e_min2, e_max3, e_x20, e_x21, e_x30, e_x31, e_x32, nod2_ints, nod2_lists, rep_fl, bs0, e_nilE, if_true, if_false, cond_true, cond_false, decide_true, decide_false, eq_self, Bool.false_eq_true, false_implies, true_implies, ap_own, ap_full, e_slcLoL, e_slcHiL, e_slcLHL, hp_assoc, hp_cons, hp_nil, hp_len, hp_len_cons, hp_len_nil, lv_cons, lv_nil, vs_0, vs_s, spl_s, spl_0, spl_n, dr_s, dr_0, tk_s, tk_0, e_bxI, e_fac, e_facA, e_ldcA, e_ldcL, e_ldcF, okE_agg, ck_I, ck_B, ck_ints, ck_lists, ck_arr, ck_ptr, ck_cptr, ck_fn, all_c, all_n, stV_agg, stV_lists, stV_arr, stV_ptr, stV_cptr, stV_fn, nodL_ints, nodL_lists, nodL_ptr, nodL_cptr, nodL_fn, nodL_arr0, cl_arr, cl_ptr, cl_cptr, cl_fn, cl_lists, okE_arr, okE_fn, okE_ptr, okE_cptr, e_bd0, e_bd1, e_wr, Nat.reduceAdd, Nat.reduceLeDiff, Nat.reduceEqDiff, Nat.add_zero, Bool.and_self, Bool.true_and, Bool.and_true, e_lc0, e_lA0, e_lM0, e_sc0, e_rc0, e_rA0, e_lI0, e_sI0, e_cI0, e_lc1, e_lA1, e_lM1, e_sc1, e_rc1, e_rA1, e_lI1, e_sI1, e_cI1, e_lc2, e_lA2, e_lM2, e_sc2, e_rc2, e_rA2, e_lI2, e_sI2, e_cI2, e_lc3, e_lA3, e_lM3, e_sc3, e_rc3, e_rA3, e_lI3, e_sI3, e_cI3, e_lc4, e_lA4, e_lM4, e_sc4, e_rc4, e_rA4, e_lI4, e_sI4, e_cI4, e_lc5, e_lA5, e_lM5, e_sc5, e_rc5, e_rA5, e_lI5, e_sI5, e_cI5, own0_arr, own0_ints, own0_lists, own0_imm, own0_ptr, own0_cptr, own0_fn, own0_agg, e_appB, e_appB0, ck_sl, own0_sl, stV_sl, nodL_sl, cl_sl, okE_sl, e_mkM, e_mkI, e_mkIm, e_callB, nod_bfn, nod_ifc, nod_map, nodL_ifc, nodL_bfn, nodL_map, cl_ifc, cl_bfn, ck_ifc, ck_bfn, ck_map, stV_ifc, okE_ifc, okE_bfn, nod_arr, nodL_arr, e_addU, e_mulU, e_shrK, e_shlK, e_andK, e_cv64, e_cv32, e_callEG, e_callEY, e_callEB, e_zr, e_nilSl, e_ncP, e_ncC, e_ncI, e_npnP, e_npeP, e_npnC, e_npeC, e_npnN, e_npeN, e_ixAP, e_ldcP, e_ldcS, e_ldcV, e_ldcT, okE_nilP, ck_nilP, okE_nilI, ck_nilI, okE_str, ck_str, e_tlen, e_tix, e_teq, e_tne, e_tadd, e_tb, e_u8lss, e_u8gtr, noV_full, nod_arr, List.length_map, reduceIte, Int.reduceEq, Int.reduceNeg, ne_eq, not_true_eq_false, not_false_eq_true, Bool.not_true, Bool.not_false, Bool.true_or, Bool.or_true, Bool.false_or, Bool.or_false, Bool.and_true, Bool.and_false, Bool.false_and, Bool.not_not, Bool.or_self, List.length_nil, Int.ofNat_zero, Int.cast_ofNat_Int, Int.natCast_zero, beq_self_eq_true, Bool.true_eq_false]; subst hK hQ) | refine Jr.go ?_) | refine sd ?_)
  exact end1 (fzI _)
 ·repeat (first | (with_reducible first | refine Ju.go ?_ | (refine Hd.go ?_; intro K Q hK hQ; simp only [nod_imm, e_not, Bool.not_true, e_cond, Bool.false_eq_true, if_false, nod_cptr, e_ldcA, lv_cons, List.length_nil, Nat.zero_add, Nat.reduceAdd, true_and, nod_agg, List.map_cons, nodL_imm, nodL_ints, nd_no, nodL_arr, List.map_nil]; subst hK hQ) | refine Jr.go ?_) | refine sd ?_)
  refine call_of (c16 p k _ sm) ?_
  cases hok : (okSp p && okPc k)
  ·rw [if_neg (by decide)]
   repeat (first | (with_reducible first | refine Ju.go ?_ | (refine Hd.go ?_; intro K Q hK hQ; simp only [nod_tup, List.map_cons, nod2_agg, List.map_nil, nodL_imm, nodL_ints, nd_no, nodL_arr, nod2_imm, e_x20, e_x21, nod_agg, e_bxI, okE_agg, lv_cons, List.length_nil, Nat.zero_add, Nat.reduceAdd, all_c, ck_I, ck_ints, ck_arr, all_n, Bool.and_self, and_true, true_and, List.getD_cons_zero, nod_cptr, e_ldcA]; subst hK hQ) | refine Jr.go ?_) | refine sd ?_)
   refine call_of (c17 p _ sm) ?_
   have fin : ∀ (b : Bool) (K : V → Hp → Prop), b = true → K (B true) H → K (B b) H := fun b K e h => by rw [e]; exact h
   cases ho : okSp p
   ·repeat (first | (with_reducible first | refine Ju.go ?_ | (refine Hd.go ?_; intro K Q hK hQ; simp only [nod_imm, e_not, Bool.not_false, List.getD_cons_succ, List.getD_cons_zero, nod_cptr, e_ldcA, lv_cons, List.length_nil, Nat.zero_add, Nat.reduceAdd, nod_agg, List.map_cons, nodL_imm, List.map_nil, true_and, e_gF, cond_true, j_one, e_cond, if_true, Try.underlying30, e_eql, decide_true, e_bd0, nodL_arr, nd_full, nodL_ints, nd_no, e_gT]; subst hK hQ) | refine Jr.go ?_) | refine sd ?_)
    refine call_of (c19z _) ?_
    repeat (first | (with_reducible first | refine Ju.go ?_ | (refine Hd.go ?_; intro K Q hK hQ; simp only [nod_imm, e_gT, cond_true]; subst hK hQ) | refine Jr.go ?_) | refine sd ?_)
    refine call_of (c15x _) ?_
    repeat (first | (with_reducible first | refine Ju.go ?_ | (refine Hd.go ?_; intro K Q hK hQ; simp only [nod_imm]; subst hK hQ) | refine Jr.go ?_) | refine sd ?_)
    exact end1 (fzI _)
   ·rw [ho, Bool.true_and] at hok
    repeat (first | (with_reducible first | refine Ju.go ?_ | (refine Hd.go ?_; intro K Q hK hQ; simp only [nod_imm, e_not, Bool.not_true, List.getD_cons_succ, List.getD_cons_zero, nod_cptr, e_ldcA, lv_cons, List.length_nil, Nat.zero_add, Nat.reduceAdd, nod_agg, List.map_cons, nodL_imm, List.map_nil, true_and, e_gF, cond_false]; subst hK hQ) | refine Jr.go ?_) | refine sd ?_)
    refine call_of (c18 k _) ?_
    rw [hok]
    repeat (first | (with_reducible first | refine Ju.go ?_ | (refine Hd.go ?_; intro K Q hK hQ; simp only [nod_imm, e_not, Bool.not_false, List.getD_cons_zero, List.getD_cons_succ, e_cond, if_true, Try.underlying30, e_eql, decide_true, nod_cptr, e_bd0, nod_agg, List.map_cons, nodL_imm, nodL_arr, nd_full, List.map_nil, e_ldcA, lv_cons, List.length_nil, Nat.zero_add, Nat.reduceAdd, nodL_ints, nd_no, true_and, e_gT, cond_true]; subst hK hQ) | refine Jr.go ?_) | refine sd ?_)
    refine call_of (c19z _) ?_
    repeat (first | (with_reducible first | refine Ju.go ?_ | (refine Hd.go ?_; intro K Q hK hQ; simp only [nod_imm, e_gT, cond_true]; subst hK hQ) | refine Jr.go ?_) | refine sd ?_)
    refine call_of (c15x _) ?_
    repeat (first | (with_reducible first | refine Ju.go ?_ | (refine Hd.go ?_; intro K Q hK hQ; simp only [nod_imm]; subst hK hQ) | refine Jr.go ?_) | refine sd ?_)
    exact end1 (fzI _)
  ·rw [if_pos rfl]
   rw [Bool.and_eq_true] at hok
   have hps := pacS_len k hok.1 hok.2
   have hpg := (pacG_ok k hok.1).1
   repeat (first | (with_reducible first | refine Ju.go ?_ | (refine Hd.go ?_; intro K Q hK hQ; simp only [nod_tup, List.map_cons, nod2_agg, nodL_imm, nodL_ints, nd_no, nodL_arr, List.map_nil, nod2_imm, e_x20, e_x21, nod_agg, e_bxI, okE_agg, lv_cons, List.length_nil, Nat.zero_add, Nat.reduceAdd, all_c, ck_I, ck_ints, ck_arr, all_n, Bool.and_self, and_true, true_and, List.getD_cons_zero, nod_cptr, e_ldcA]; subst hK hQ) | refine Jr.go ?_) | refine sd ?_)
   refine call_of (c17 p _ sm) ?_
   rw [hok.1]
   repeat (first | (with_reducible first | refine Ju.go ?_ | (refine Hd.go ?_; intro K Q hK hQ; simp only [nod_imm, e_not, Bool.not_true, List.getD_cons_succ, List.getD_cons_zero, nod_cptr, e_ldcA, lv_cons, List.length_nil, Nat.zero_add, Nat.reduceAdd, nod_agg, List.map_cons, nodL_imm, List.map_nil, true_and, e_gF, cond_false]; subst hK hQ) | refine Jr.go ?_) | refine sd ?_)
   refine call_of (c18 k _) ?_
   rw [hok.2]
   repeat (first | (with_reducible first | refine Ju.go ?_ | (refine Hd.go ?_; intro K Q hK hQ; simp only [nod_imm, e_not, Bool.not_true, List.getD_cons_zero, List.getD_cons_succ, e_cond, Bool.false_eq_true, if_false, Try.underlying30, e_eql, decide_true, nod_cptr, e_ldcA, lv_cons, List.length_nil, Nat.zero_add, Nat.reduceAdd, nod_agg, List.map_cons, nodL_imm, List.map_nil, true_and, nodL_ints, nd_no, nodL_arr, e_gT, cond_true]; subst hK hQ) | refine Jr.go ?_) | refine sd ?_)
   refine calm_of (fun H => c20 p k H hok.1 hok.2) ?_
   repeat (first | (with_reducible first | refine Ju.go ?_ | (refine Hd.go ?_; intro K Q hK hQ; simp only [nod_agg, List.map_cons, nodL_imm, nodL_ints, nd_no, nodL_arr, List.map_nil]; subst hK hQ) | refine Jr.go ?_) | refine sd ?_)
   refine call_ofD (c19 (pdS p k) (pdS p k) _ ⟨by show (pacS p k).length ≤ _; omega, by show (0 : Nat) ≤ _; omega, by show (pacG p k).length ≤ _; omega⟩) ?_
   rw [decide_eq_true rfl]
   repeat (first | (with_reducible first | refine Ju.go ?_ | (refine Hd.go ?_; intro K Q hK hQ; simp only [nod_imm, e_gT, cond_true]; subst hK hQ) | refine Jr.go ?_) | refine sd ?_)
   refine call_ofD (c15x _) ?_
   repeat (first | (with_reducible first | refine Ju.go ?_ | (refine Hd.go ?_; intro K Q hK hQ; simp only [nod_imm]; subst hK hQ) | refine Jr.go ?_) | refine sd ?_)
   exact end1 (fzI _)
open Go.ChangeShapes Go.WideShapes Go.ChangeAt Go.RowKit
theorem own : ownKnob Try.prog.godebug = none := by kernel_rfl
theorem laidOut : laidOutB Try.prog = true := by kernel_rfl
set_option maxRecDepth 100000 in
theorem lifted (os : Os) (started : os.Started) (H : Type) (enc : TypeId × Value → H) :
    ReturnsInHanded {} Try.checked os 3 .any (Rows.streamPacesSpec.pre6 enc Try.prog Try.f3 Rows.streamPacesRow.domain false) (Rows.streamPacesSpec.post enc Try.prog Try.f3 false true false false) := by
  refine returnsInHanded_of_change (C := Try.checked) own started (by kernel_rfl) Try.func3
    (ChangeSpec.witness6 (enc := enc) (C := Try.checked) false ⟨#[], #[.agg #[.int .i64 0, .int .i64 0, .slice none 0 0, .slice none 0 0, .slice none 0 0, .int .i64 0], .agg #[.int .i64 0, .int .i64 0]], []⟩ 8 (by kernel_rfl) (by kernel_rfl) (by kernel_rfl) (by kernel_rfl)) ?_
  intro W base args ds gs before hval0 hW hcnd _
  have hval : ∀ (j : Nat) t v, Try.f3.params[j]? = some t → args[j]? = some v → Value.okWide Try.prog W .any base t v := hval0
  have hW' := hW
  obtain ⟨p, q, hA0, hV, rfl, hfz, hnd⟩ := hW
  have hA : DataW.TrodAll enc Try.prog W 0 (fun _ => true) true Try.f3.params.toList args.toList ds p := hA0
  rw [Try.params3] at hA hval
  obtain ⟨v0, vs0, d0, ds0, p0, q0, hargs, rfl, rfl, h0, r0⟩ := trodAll_cons hA
  obtain ⟨v1, vs1, d1, ds1, p1, q1, rfl, rfl, rfl, h1, r1⟩ := trodAll_cons r0
  obtain ⟨rfl, rfl, rfl⟩ := trodAll_nil r1
  obtain rfl : args = #[v0, v1] := by cases args; simp_all
  obtain ⟨rfl, rfl⟩ := trodVars_none hV
  have lt0 : ∀ x ∈ p0, x.block < W.heap.size := by obtain ⟨m, hm⟩ := h0; exact DataW.trod_lt m _ _ _ hm
  obtain ⟨l0, w0, e0⟩ := in_sp (hval 0 _ v0 rfl rfl) h0
  have lt1 : ∀ x ∈ p1, x.block < W.heap.size := by obtain ⟨m, hm⟩ := h1; exact DataW.trod_lt m _ _ _ hm
  obtain ⟨l1, e1⟩ := in_pc (hval 1 _ v1 rfl rfl) h1
  clear hA0 hval0
  refine (bridge (args := [spV l0, pcV l1]) (ra := #[v0, v1]) (c3 l0 l1 [] w0) rfl (by intro a ha; simp at ha; rcases ha with rfl | rfl <;> rfl) (fun i => ?_)).mono fun e W' ⟨he, bel⟩ => ?_
  · match i with
    | 0 => exact e0
    | 1 => exact e1
    | i + 2 => exact .junk _
  · subst he
    exact ⟨_, rfl, _, _, _, [], _, [], hW', trodAll_mk1 (shut_bool Try.underlying4 _), (trodAll_cons_mk (Below.trod laidOut (by kernel_rfl) (of_decide_eq_true (by kernel_rfl)) h0 bel lt0) (trodAll_cons_mk (Below.trod laidOut (by kernel_rfl) (of_decide_eq_true (by kernel_rfl)) h1 bel lt1) trodAll_mk0)), rfl, bel.frame _, fun h => by cases h⟩
theorem over : Rows.streamPacesRow.holds Try.pinned (OpenSpec.ofChange Rows.streamPacesSpec) :=
 OpenClaim.holds_of_wide 3 Try.f3 rfl rfl rfl rfl rfl rfl rfl ⟨rfl, rfl, rfl, rfl, rfl⟩ rfl rfl rfl rfl rfl (by kernel_rfl) Try.func3 (by kernel_rfl)
  (of_decide_eq_true (by kernel_rfl)) (by unfold Func.isWrapper; first | (rw [if_pos (by decide +kernel)]; kernel_rfl) | (rw [if_neg (by decide +kernel)]; exact ⟨rfl, rfl⟩))
  (fun os started H enc _ => lifted os started H enc)
theorem streamPaces_holds : Rows.StreamPacesSaid := over
#print axioms streamPaces_holds
end Go.Proofs.Ytlnjhnemmemloaa
