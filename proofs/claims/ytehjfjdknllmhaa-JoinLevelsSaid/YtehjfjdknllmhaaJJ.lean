/- Contracts of join's functions, sixth part: periods, stretched and transposed. -/
import Derived.Test.YtehjfjdknllmhaaJI
set_option linter.unusedVariables false
set_option linter.unusedSimpArgs false
set_option linter.unnecessarySimpa false
set_option maxRecDepth 20000
set_option maxHeartbeats 2000000
namespace Go.Proofs.Ytehjfjdknllmhaa
open Go Go.Ab Go.Proofs
attribute [local congr] g_bin g_nilS g_nilP g_un g_ext g_bx g_fa g_ld g_st g_ix g_ixA g_slc g_mk g_bs g_bd g_nc g_cv g_len g_lenT g_app g_appB g_cpy g_mm g_call g_callG g_calm g_calmG g_range g_res g_pick g_cond g_loop g_Jv
def nearV (n a b : Int) : Int := max 1 ((2 * n * a + b).tdiv (2 * b))
theorem tdiv_bd {x y : Int} (hx : 0 ≤ x) (hy : 0 < y) : 0 ≤ x.tdiv y ∧ x.tdiv y ≤ x := ⟨Int.tdiv_nonneg hx (by omega), Int.tdiv_le_self _ hx⟩
theorem nearV_bd {n a b : Int} (hn : 0 ≤ n) (hn2 : n ≤ 10000000) (ha : 1 ≤ a) (ha2 : a ≤ 1000) (hb : 1 ≤ b) (hb2 : b ≤ 1000) (hr : a ≤ 16 * b) : 1 ≤ nearV n a b ∧ nearV n a b ≤ 16 * n + 1 := by
  unfold nearV
  have h1 := Int.mul_le_mul_of_nonneg_left hr hn
  have h0 := Int.mul_nonneg hn (show (0 : Int) ≤ a by omega)
  have e1 : 2 * n * a = 2 * (n * a) := Int.mul_assoc ..
  have e2 : n * (16 * b) = 16 * (n * b) := by rw [← Int.mul_assoc, Int.mul_comm n 16, Int.mul_assoc]
  rw [Int.tdiv_eq_ediv_of_nonneg (by omega)]
  have h2 := ediv_lo (2 * n * a + b) (2 * b) (by omega)
  generalize (2 * n * a + b) / (2 * b) = q at *
  have : q ≤ 16 * n + 1 := by
    refine le_of_mul (z := 2 * b) (by omega) ?_
    have e3 : 2 * b * (16 * n + 1) = 32 * (n * b) + 2 * b := by
      rw [Int.mul_add, Int.mul_one, Int.mul_assoc, ← Int.mul_assoc b 16 n, Int.mul_comm b 16, Int.mul_assoc 16 b n, Int.mul_comm b n]; omega
    omega
  omega
theorem c86 (n a b : Int) (H : Hp) (hn : 0 ≤ n) (hn2 : n ≤ 10000000) (ha : 1 ≤ a) (ha2 : a ≤ 1000) (hb : 1 ≤ b) (hb2 : b ≤ 1000) : Ret Try.prog 86 [I n, I a, I b] H (I (nearV n a b)) H := by
  refine mk86 _ _ _ rfl (Nat.le_refl _) (.inl rfl) ?_
  simp only [vc86, real]
  simp only [nod_imm, Try.underlying3, e_mul, e_add, e_quo, e_max2]
  have h0 := Int.mul_nonneg hn (show (0 : Int) ≤ a by omega)
  have h1 := Int.mul_le_mul_of_nonneg_left (show a ≤ 1000 by omega) hn
  have e1 : 2 * n * a = 2 * (n * a) := Int.mul_assoc ..
  have h2 := tdiv_bd (x := 2 * n * a + b) (y := 2 * b) (by omega) (by omega)
  repeat (refine And.intro (by first | (unfold R64; omega) | omega | assumption | (intros; (try simp only [Bool.or_eq_true, Bool.and_eq_true, Bool.not_eq_true', Bool.or_eq_false_iff, Bool.and_eq_false_iff, decide_eq_false_iff_not, decide_eq_true_eq, Bool.not_eq_true, Bool.not_eq_false'] at *); (try unfold R64); omega)) ?_)
  exact end_keep (.imm _) rfl
theorem c67 (n b : Int) (H : Hp) (hn : 0 ≤ n) (hn2 : n ≤ 10000000000) (hb : 1 ≤ b) (hb2 : b ≤ 1000) : Ret Try.prog 67 [I n, I b] H (I (nearV n 1 b)) H := by
  refine mk67 _ _ rfl (Nat.le_refl _) (.inl rfl) ?_
  simp only [vc67, real]
  simp only [nod_imm, Try.underlying3, e_mul, e_add, e_quo, e_max2]
  have h2 := tdiv_bd (x := 2 * n + b) (y := 2 * b) (by omega) (by omega)
  repeat (refine And.intro (by first | (unfold R64; omega) | omega | assumption | (intros; (try simp only [Bool.or_eq_true, Bool.and_eq_true, Bool.not_eq_true', Bool.or_eq_false_iff, Bool.and_eq_false_iff, decide_eq_false_iff_not, decide_eq_true_eq, Bool.not_eq_true, Bool.not_eq_false'] at *); (try unfold R64); omega)) ?_)
  unfold nearV
  rw [Int.mul_one]
  exact end_keep (.imm _) rfl
theorem nearV_one (n a b : Int) : nearV (n * a) 1 b = nearV n a b := by unfold nearV; rw [Int.mul_one, Int.mul_assoc]
def ratioB (a b : Int) : Bool := decide (1 ≤ a) && decide (a ≤ 1000) && (decide (1 ≤ b) && decide (b ≤ 1000)) && decide (a ≤ 16 * b) && decide (b ≤ 16 * a)
theorem ratioB_iff (a b : Int) : ratioB a b = true ↔ 1 ≤ a ∧ a ≤ 1000 ∧ 1 ≤ b ∧ b ≤ 1000 ∧ a ≤ 16 * b ∧ b ≤ 16 * a := by
  unfold ratioB
  simp only [Bool.and_eq_true, decide_eq_true_eq, and_assoc]
theorem c26 (a b : Int) (H : Hp) : Ret Try.prog 26 [I a, I b] H (B (ratioB a b)) H := by
  refine mk26 _ _ rfl (Nat.le_refl _) (.inl rfl) ?_
  simp only [vc26, real]
  simp only [nod_imm, Try.underlying3, e_mul, e_leq]
  refine call_of (c60 _ _ _ H) ?_
  unfold ratioB
  simp only [e_Jv]
  simp only [nod_imm, nod_nod, e_gT, j_tl, decide_eq_true_eq, cond_false]
  by_cases h1 : (decide (1 ≤ a) && decide (a ≤ 1000)) = true
  · simp only [h1, cond_true, Bool.true_and]
    have h1' := h1
    simp only [Bool.and_eq_true, decide_eq_true_eq] at h1'
    refine call_of (c60 _ _ _ H) ?_
    simp only [nod_imm, e_gT, j_tl]
    by_cases h2 : (decide (1 ≤ b) && decide (b ≤ 1000)) = true
    · have h2' := h2
      simp only [Bool.and_eq_true, decide_eq_true_eq] at h2'
      simp only [h2, cond_true, Bool.true_and, true_implies]
      try simp only [Try.underlying3, Try.underlying4, Try.underlying22, Try.underlying25, j_one, j_side, j_tl, j_fl, Jn, nod_nod, nod_imm, nod_ints, nd_no, nd_own, nd_full, nd_fO, oF_ap, oF_succ, nod_arr_no, nod_arr_own, nod_arr_full, nod_sl, nod_ptr, nod_cptr, nod_fn, nod_junk, nodL_imm, nod_agg, nod_tup, nod2_imm, nod2_agg, cl_imm, cl_ints, cl_agg, e_add, e_sub, e_mul, e_quo, e_rem, e_eql, e_neq, e_lss, e_leq, e_gtr, e_geq, e_beq, e_bne, e_neg, e_not, e_pick, e_cond, e_gT, e_gF, e_len, e_lenA, e_lenS, e_ix, e_ixS, e_ldc, e_ldci, e_fa, e_mk, rep_cl, rep_I, e_bx, okE_I, okE_B, okE_E8, okE_ints, stV_imm, stV_ints, j_and', j_or', List.getD_cons_zero, List.getD_cons_succ, List.map_cons, List.map_nil, decide_eq_true_eq, Int.toNat_natCast, Nat.mul_one, Nat.zero_add, true_and, and_true, List.length_map, Bool.not_eq_true', decide_eq_false_iff_not, nod_lists, e_lenL, e_ixL, okE_lists, bs1, bs1L, bs2L, e_app, e_appL, e_app0, e_app0L, e_slcLo, e_slcHi, e_slcLH, e_slcHH, e_slcLHH, e_callG, e_callY, e_calmG, e_slS0, e_slSLo, e_slSHi, e_slSLH, e_slSHH, e_slSLHH, e_max2, e_min2, e_max3, e_x20, e_x21, e_x30, e_x31, e_x32, nod2_ints, nod2_lists, rep_fl, bs0, e_nilE, if_true, if_false, cond_true, cond_false, decide_true, decide_false, eq_self, Bool.false_eq_true, false_implies, true_implies, ap_own, ap_full, e_slcLoL, e_slcHiL, e_slcLHL, hp_assoc, hp_cons, hp_nil, hp_len, hp_len_cons, hp_len_nil, lv_cons, lv_nil, vs_0, vs_s, spl_s, spl_0, spl_n, dr_s, dr_0, tk_s, tk_0, e_bxI, e_fac, e_facA, e_ldcA, e_ldcL, e_ldcF, okE_agg, ck_I, ck_B, ck_ints, ck_lists, ck_arr, ck_ptr, ck_cptr, ck_fn, all_c, all_n, stV_agg, stV_lists, stV_arr, stV_ptr, stV_cptr, stV_fn, nodL_ints, nodL_lists, nodL_ptr, nodL_cptr, nodL_fn, nodL_arr0, cl_arr, cl_ptr, cl_cptr, cl_fn, cl_lists, okE_arr, okE_fn, okE_ptr, okE_cptr, e_bd0, e_bd1, Nat.reduceAdd, Nat.reduceLeDiff, Nat.reduceEqDiff, Nat.add_zero, Bool.and_self, Bool.true_and, Bool.and_true, e_lc0, e_lA0, e_lM0, e_sc0, e_rc0, e_rA0, e_lI0, e_sI0, e_cI0, e_lc1, e_lA1, e_lM1, e_sc1, e_rc1, e_rA1, e_lI1, e_sI1, e_cI1, e_lc2, e_lA2, e_lM2, e_sc2, e_rc2, e_rA2, e_lI2, e_sI2, e_cI2, e_lc3, e_lA3, e_lM3, e_sc3, e_rc3, e_rA3, e_lI3, e_sI3, e_cI3, e_lc4, e_lA4, e_lM4, e_sc4, e_rc4, e_rA4, e_lI4, e_sI4, e_cI4, e_lc5, e_lA5, e_lM5, e_sc5, e_rc5, e_rA5, e_lI5, e_sI5, e_cI5, own0_arr, own0_ints, own0_lists, own0_imm, own0_ptr, own0_cptr, own0_fn, own0_agg, e_appB, e_appB0, ck_sl, own0_sl, stV_sl, nodL_sl, cl_sl, okE_sl]
      repeat (refine And.intro (by first | (unfold R64; omega) | omega | assumption | (intros; (try simp only [Bool.or_eq_true, Bool.and_eq_true, Bool.not_eq_true', Bool.or_eq_false_iff, Bool.and_eq_false_iff, decide_eq_false_iff_not, decide_eq_true_eq, Bool.not_eq_true, Bool.not_eq_false'] at *); (try unfold R64); omega)) ?_)
      cases decide (a ≤ 16 * b) <;> exact end_keep (.imm _) rfl
    · have h2 : (decide (1 ≤ b) && decide (b ≤ 1000)) = false := by simpa only [Bool.not_eq_true] using h2
      simp only [h2, cond_false, Bool.false_and, Bool.false_eq_true, false_implies, true_and]
      try simp only [Try.underlying3, Try.underlying4, Try.underlying22, Try.underlying25, j_one, j_side, j_tl, j_fl, Jn, nod_nod, nod_imm, nod_ints, nd_no, nd_own, nd_full, nd_fO, oF_ap, oF_succ, nod_arr_no, nod_arr_own, nod_arr_full, nod_sl, nod_ptr, nod_cptr, nod_fn, nod_junk, nodL_imm, nod_agg, nod_tup, nod2_imm, nod2_agg, cl_imm, cl_ints, cl_agg, e_add, e_sub, e_mul, e_quo, e_rem, e_eql, e_neq, e_lss, e_leq, e_gtr, e_geq, e_beq, e_bne, e_neg, e_not, e_pick, e_cond, e_gT, e_gF, e_len, e_lenA, e_lenS, e_ix, e_ixS, e_ldc, e_ldci, e_fa, e_mk, rep_cl, rep_I, e_bx, okE_I, okE_B, okE_E8, okE_ints, stV_imm, stV_ints, j_and', j_or', List.getD_cons_zero, List.getD_cons_succ, List.map_cons, List.map_nil, decide_eq_true_eq, Int.toNat_natCast, Nat.mul_one, Nat.zero_add, true_and, and_true, List.length_map, Bool.not_eq_true', decide_eq_false_iff_not, nod_lists, e_lenL, e_ixL, okE_lists, bs1, bs1L, bs2L, e_app, e_appL, e_app0, e_app0L, e_slcLo, e_slcHi, e_slcLH, e_slcHH, e_slcLHH, e_callG, e_callY, e_calmG, e_slS0, e_slSLo, e_slSHi, e_slSLH, e_slSHH, e_slSLHH, e_max2, e_min2, e_max3, e_x20, e_x21, e_x30, e_x31, e_x32, nod2_ints, nod2_lists, rep_fl, bs0, e_nilE, if_true, if_false, cond_true, cond_false, decide_true, decide_false, eq_self, Bool.false_eq_true, false_implies, true_implies, ap_own, ap_full, e_slcLoL, e_slcHiL, e_slcLHL, hp_assoc, hp_cons, hp_nil, hp_len, hp_len_cons, hp_len_nil, lv_cons, lv_nil, vs_0, vs_s, spl_s, spl_0, spl_n, dr_s, dr_0, tk_s, tk_0, e_bxI, e_fac, e_facA, e_ldcA, e_ldcL, e_ldcF, okE_agg, ck_I, ck_B, ck_ints, ck_lists, ck_arr, ck_ptr, ck_cptr, ck_fn, all_c, all_n, stV_agg, stV_lists, stV_arr, stV_ptr, stV_cptr, stV_fn, nodL_ints, nodL_lists, nodL_ptr, nodL_cptr, nodL_fn, nodL_arr0, cl_arr, cl_ptr, cl_cptr, cl_fn, cl_lists, okE_arr, okE_fn, okE_ptr, okE_cptr, e_bd0, e_bd1, Nat.reduceAdd, Nat.reduceLeDiff, Nat.reduceEqDiff, Nat.add_zero, Bool.and_self, Bool.true_and, Bool.and_true, e_lc0, e_lA0, e_lM0, e_sc0, e_rc0, e_rA0, e_lI0, e_sI0, e_cI0, e_lc1, e_lA1, e_lM1, e_sc1, e_rc1, e_rA1, e_lI1, e_sI1, e_cI1, e_lc2, e_lA2, e_lM2, e_sc2, e_rc2, e_rA2, e_lI2, e_sI2, e_cI2, e_lc3, e_lA3, e_lM3, e_sc3, e_rc3, e_rA3, e_lI3, e_sI3, e_cI3, e_lc4, e_lA4, e_lM4, e_sc4, e_rc4, e_rA4, e_lI4, e_sI4, e_cI4, e_lc5, e_lA5, e_lM5, e_sc5, e_rc5, e_rA5, e_lI5, e_sI5, e_cI5, own0_arr, own0_ints, own0_lists, own0_imm, own0_ptr, own0_cptr, own0_fn, own0_agg, e_appB, e_appB0, ck_sl, own0_sl, stV_sl, nodL_sl, cl_sl, okE_sl]
      exact end_keep (.imm _) rfl
  · have h1 : (decide (1 ≤ a) && decide (a ≤ 1000)) = false := by simpa only [Bool.not_eq_true] using h1
    simp only [h1, cond_false, Bool.false_and, Bool.false_eq_true, false_implies, true_and]
    try simp only [Try.underlying3, Try.underlying4, Try.underlying22, Try.underlying25, j_one, j_side, j_tl, j_fl, Jn, nod_nod, nod_imm, nod_ints, nd_no, nd_own, nd_full, nd_fO, oF_ap, oF_succ, nod_arr_no, nod_arr_own, nod_arr_full, nod_sl, nod_ptr, nod_cptr, nod_fn, nod_junk, nodL_imm, nod_agg, nod_tup, nod2_imm, nod2_agg, cl_imm, cl_ints, cl_agg, e_add, e_sub, e_mul, e_quo, e_rem, e_eql, e_neq, e_lss, e_leq, e_gtr, e_geq, e_beq, e_bne, e_neg, e_not, e_pick, e_cond, e_gT, e_gF, e_len, e_lenA, e_lenS, e_ix, e_ixS, e_ldc, e_ldci, e_fa, e_mk, rep_cl, rep_I, e_bx, okE_I, okE_B, okE_E8, okE_ints, stV_imm, stV_ints, j_and', j_or', List.getD_cons_zero, List.getD_cons_succ, List.map_cons, List.map_nil, decide_eq_true_eq, Int.toNat_natCast, Nat.mul_one, Nat.zero_add, true_and, and_true, List.length_map, Bool.not_eq_true', decide_eq_false_iff_not, nod_lists, e_lenL, e_ixL, okE_lists, bs1, bs1L, bs2L, e_app, e_appL, e_app0, e_app0L, e_slcLo, e_slcHi, e_slcLH, e_slcHH, e_slcLHH, e_callG, e_callY, e_calmG, e_slS0, e_slSLo, e_slSHi, e_slSLH, e_slSHH, e_slSLHH, e_max2, e_min2, e_max3, e_x20, e_x21, e_x30, e_x31, e_x32, nod2_ints, nod2_lists, rep_fl, bs0, e_nilE, if_true, if_false, cond_true, cond_false, decide_true, decide_false, eq_self, Bool.false_eq_true, false_implies, true_implies, ap_own, ap_full, e_slcLoL, e_slcHiL, e_slcLHL, hp_assoc, hp_cons, hp_nil, hp_len, hp_len_cons, hp_len_nil, lv_cons, lv_nil, vs_0, vs_s, spl_s, spl_0, spl_n, dr_s, dr_0, tk_s, tk_0, e_bxI, e_fac, e_facA, e_ldcA, e_ldcL, e_ldcF, okE_agg, ck_I, ck_B, ck_ints, ck_lists, ck_arr, ck_ptr, ck_cptr, ck_fn, all_c, all_n, stV_agg, stV_lists, stV_arr, stV_ptr, stV_cptr, stV_fn, nodL_ints, nodL_lists, nodL_ptr, nodL_cptr, nodL_fn, nodL_arr0, cl_arr, cl_ptr, cl_cptr, cl_fn, cl_lists, okE_arr, okE_fn, okE_ptr, okE_cptr, e_bd0, e_bd1, Nat.reduceAdd, Nat.reduceLeDiff, Nat.reduceEqDiff, Nat.add_zero, Bool.and_self, Bool.true_and, Bool.and_true, e_lc0, e_lA0, e_lM0, e_sc0, e_rc0, e_rA0, e_lI0, e_sI0, e_cI0, e_lc1, e_lA1, e_lM1, e_sc1, e_rc1, e_rA1, e_lI1, e_sI1, e_cI1, e_lc2, e_lA2, e_lM2, e_sc2, e_rc2, e_rA2, e_lI2, e_sI2, e_cI2, e_lc3, e_lA3, e_lM3, e_sc3, e_rc3, e_rA3, e_lI3, e_sI3, e_cI3, e_lc4, e_lA4, e_lM4, e_sc4, e_rc4, e_rA4, e_lI4, e_sI4, e_cI4, e_lc5, e_lA5, e_lM5, e_sc5, e_rc5, e_rA5, e_lI5, e_sI5, e_cI5, own0_arr, own0_ints, own0_lists, own0_imm, own0_ptr, own0_cptr, own0_fn, own0_agg, e_appB, e_appB0, ck_sl, own0_sl, stV_sl, nodL_sl, cl_sl, okE_sl]
    exact end_keep (.imm _) rfl
theorem c95 (a : Int) (H : Hp) : Ret Try.prog 95 [I a] H (B (decide (1 ≤ a) && decide (a ≤ 1000))) H := by
  refine mk95 _ rfl (Nat.le_refl _) (.inl rfl) ?_
  simp only [vc95, real]
  simp only [nod_imm, Try.underlying3, e_leq, e_geq, e_gT, j_and', j_one]
  exact end_keep (.imm _) rfl
abbrev rat (a b : Int) : V := .agg [I a, I b]
theorem c84 (a b : Int) (H : Hp) : Ret Try.prog 84 [rat a b] H (B (ratioB a b)) H := by
  refine mk84 _ rfl (Nat.le_refl _) (.inl rfl) ?_
  simp only [vc84, real]
  simp only [nod_agg, List.map_cons, nodL_imm, List.map_nil, Try.underlying3, e_bxI, okE_agg, lv_cons, lv_nil, Nat.zero_add, Nat.reduceAdd, all_c, ck_I, all_n, Bool.and_self, and_true, nod_cptr, e_fac, Nat.reduceLeDiff, List.getD_cons_succ, List.getD_cons_zero, e_ldc, nod_imm, true_and, e_mul, e_leq]
  refine call_of (c95 _ H) ?_
  unfold ratioB
  simp only [e_Jv]
  simp only [nod_imm, nod_nod, e_gT, j_tl, decide_eq_true_eq, cond_false]
  by_cases h1 : (decide (1 ≤ a) && decide (a ≤ 1000)) = true
  · simp only [h1, cond_true, Bool.true_and]
    have h1' := h1
    simp only [Bool.and_eq_true, decide_eq_true_eq] at h1'
    refine call_of (c95 _ H) ?_
    simp only [nod_imm, e_gT, j_tl]
    by_cases h2 : (decide (1 ≤ b) && decide (b ≤ 1000)) = true
    · have h2' := h2
      simp only [Bool.and_eq_true, decide_eq_true_eq] at h2'
      simp only [h2, cond_true, Bool.true_and, true_implies]
      try simp only [Try.underlying3, Try.underlying4, Try.underlying22, Try.underlying25, j_one, j_side, j_tl, j_fl, Jn, nod_nod, nod_imm, nod_ints, nd_no, nd_own, nd_full, nd_fO, oF_ap, oF_succ, nod_arr_no, nod_arr_own, nod_arr_full, nod_sl, nod_ptr, nod_cptr, nod_fn, nod_junk, nodL_imm, nod_agg, nod_tup, nod2_imm, nod2_agg, cl_imm, cl_ints, cl_agg, e_add, e_sub, e_mul, e_quo, e_rem, e_eql, e_neq, e_lss, e_leq, e_gtr, e_geq, e_beq, e_bne, e_neg, e_not, e_pick, e_cond, e_gT, e_gF, e_len, e_lenA, e_lenS, e_ix, e_ixS, e_ldc, e_ldci, e_fa, e_mk, rep_cl, rep_I, e_bx, okE_I, okE_B, okE_E8, okE_ints, stV_imm, stV_ints, j_and', j_or', List.getD_cons_zero, List.getD_cons_succ, List.map_cons, List.map_nil, decide_eq_true_eq, Int.toNat_natCast, Nat.mul_one, Nat.zero_add, true_and, and_true, List.length_map, Bool.not_eq_true', decide_eq_false_iff_not, nod_lists, e_lenL, e_ixL, okE_lists, bs1, bs1L, bs2L, e_app, e_appL, e_app0, e_app0L, e_slcLo, e_slcHi, e_slcLH, e_slcHH, e_slcLHH, e_callG, e_callY, e_calmG, e_slS0, e_slSLo, e_slSHi, e_slSLH, e_slSHH, e_slSLHH, e_max2, e_min2, e_max3, e_x20, e_x21, e_x30, e_x31, e_x32, nod2_ints, nod2_lists, rep_fl, bs0, e_nilE, if_true, if_false, cond_true, cond_false, decide_true, decide_false, eq_self, Bool.false_eq_true, false_implies, true_implies, ap_own, ap_full, e_slcLoL, e_slcHiL, e_slcLHL, hp_assoc, hp_cons, hp_nil, hp_len, hp_len_cons, hp_len_nil, lv_cons, lv_nil, vs_0, vs_s, spl_s, spl_0, spl_n, dr_s, dr_0, tk_s, tk_0, e_bxI, e_fac, e_facA, e_ldcA, e_ldcL, e_ldcF, okE_agg, ck_I, ck_B, ck_ints, ck_lists, ck_arr, ck_ptr, ck_cptr, ck_fn, all_c, all_n, stV_agg, stV_lists, stV_arr, stV_ptr, stV_cptr, stV_fn, nodL_ints, nodL_lists, nodL_ptr, nodL_cptr, nodL_fn, nodL_arr0, cl_arr, cl_ptr, cl_cptr, cl_fn, cl_lists, okE_arr, okE_fn, okE_ptr, okE_cptr, e_bd0, e_bd1, Nat.reduceAdd, Nat.reduceLeDiff, Nat.reduceEqDiff, Nat.add_zero, Bool.and_self, Bool.true_and, Bool.and_true, e_lc0, e_lA0, e_lM0, e_sc0, e_rc0, e_rA0, e_lI0, e_sI0, e_cI0, e_lc1, e_lA1, e_lM1, e_sc1, e_rc1, e_rA1, e_lI1, e_sI1, e_cI1, e_lc2, e_lA2, e_lM2, e_sc2, e_rc2, e_rA2, e_lI2, e_sI2, e_cI2, e_lc3, e_lA3, e_lM3, e_sc3, e_rc3, e_rA3, e_lI3, e_sI3, e_cI3, e_lc4, e_lA4, e_lM4, e_sc4, e_rc4, e_rA4, e_lI4, e_sI4, e_cI4, e_lc5, e_lA5, e_lM5, e_sc5, e_rc5, e_rA5, e_lI5, e_sI5, e_cI5, own0_arr, own0_ints, own0_lists, own0_imm, own0_ptr, own0_cptr, own0_fn, own0_agg, e_appB, e_appB0, ck_sl, own0_sl, stV_sl, nodL_sl, cl_sl, okE_sl]
      repeat (refine And.intro (by first | (unfold R64; omega) | omega | assumption | (intros; (try simp only [Bool.or_eq_true, Bool.and_eq_true, Bool.not_eq_true', Bool.or_eq_false_iff, Bool.and_eq_false_iff, decide_eq_false_iff_not, decide_eq_true_eq, Bool.not_eq_true, Bool.not_eq_false'] at *); (try unfold R64); omega)) ?_)
      cases decide (a ≤ 16 * b) <;> exact end_keep (.imm _) rfl
    · have h2 : (decide (1 ≤ b) && decide (b ≤ 1000)) = false := by simpa only [Bool.not_eq_true] using h2
      simp only [h2, cond_false, Bool.false_and, Bool.false_eq_true, false_implies, true_and]
      try simp only [Try.underlying3, Try.underlying4, Try.underlying22, Try.underlying25, j_one, j_side, j_tl, j_fl, Jn, nod_nod, nod_imm, nod_ints, nd_no, nd_own, nd_full, nd_fO, oF_ap, oF_succ, nod_arr_no, nod_arr_own, nod_arr_full, nod_sl, nod_ptr, nod_cptr, nod_fn, nod_junk, nodL_imm, nod_agg, nod_tup, nod2_imm, nod2_agg, cl_imm, cl_ints, cl_agg, e_add, e_sub, e_mul, e_quo, e_rem, e_eql, e_neq, e_lss, e_leq, e_gtr, e_geq, e_beq, e_bne, e_neg, e_not, e_pick, e_cond, e_gT, e_gF, e_len, e_lenA, e_lenS, e_ix, e_ixS, e_ldc, e_ldci, e_fa, e_mk, rep_cl, rep_I, e_bx, okE_I, okE_B, okE_E8, okE_ints, stV_imm, stV_ints, j_and', j_or', List.getD_cons_zero, List.getD_cons_succ, List.map_cons, List.map_nil, decide_eq_true_eq, Int.toNat_natCast, Nat.mul_one, Nat.zero_add, true_and, and_true, List.length_map, Bool.not_eq_true', decide_eq_false_iff_not, nod_lists, e_lenL, e_ixL, okE_lists, bs1, bs1L, bs2L, e_app, e_appL, e_app0, e_app0L, e_slcLo, e_slcHi, e_slcLH, e_slcHH, e_slcLHH, e_callG, e_callY, e_calmG, e_slS0, e_slSLo, e_slSHi, e_slSLH, e_slSHH, e_slSLHH, e_max2, e_min2, e_max3, e_x20, e_x21, e_x30, e_x31, e_x32, nod2_ints, nod2_lists, rep_fl, bs0, e_nilE, if_true, if_false, cond_true, cond_false, decide_true, decide_false, eq_self, Bool.false_eq_true, false_implies, true_implies, ap_own, ap_full, e_slcLoL, e_slcHiL, e_slcLHL, hp_assoc, hp_cons, hp_nil, hp_len, hp_len_cons, hp_len_nil, lv_cons, lv_nil, vs_0, vs_s, spl_s, spl_0, spl_n, dr_s, dr_0, tk_s, tk_0, e_bxI, e_fac, e_facA, e_ldcA, e_ldcL, e_ldcF, okE_agg, ck_I, ck_B, ck_ints, ck_lists, ck_arr, ck_ptr, ck_cptr, ck_fn, all_c, all_n, stV_agg, stV_lists, stV_arr, stV_ptr, stV_cptr, stV_fn, nodL_ints, nodL_lists, nodL_ptr, nodL_cptr, nodL_fn, nodL_arr0, cl_arr, cl_ptr, cl_cptr, cl_fn, cl_lists, okE_arr, okE_fn, okE_ptr, okE_cptr, e_bd0, e_bd1, Nat.reduceAdd, Nat.reduceLeDiff, Nat.reduceEqDiff, Nat.add_zero, Bool.and_self, Bool.true_and, Bool.and_true, e_lc0, e_lA0, e_lM0, e_sc0, e_rc0, e_rA0, e_lI0, e_sI0, e_cI0, e_lc1, e_lA1, e_lM1, e_sc1, e_rc1, e_rA1, e_lI1, e_sI1, e_cI1, e_lc2, e_lA2, e_lM2, e_sc2, e_rc2, e_rA2, e_lI2, e_sI2, e_cI2, e_lc3, e_lA3, e_lM3, e_sc3, e_rc3, e_rA3, e_lI3, e_sI3, e_cI3, e_lc4, e_lA4, e_lM4, e_sc4, e_rc4, e_rA4, e_lI4, e_sI4, e_cI4, e_lc5, e_lA5, e_lM5, e_sc5, e_rc5, e_rA5, e_lI5, e_sI5, e_cI5, own0_arr, own0_ints, own0_lists, own0_imm, own0_ptr, own0_cptr, own0_fn, own0_agg, e_appB, e_appB0, ck_sl, own0_sl, stV_sl, nodL_sl, cl_sl, okE_sl]
      exact end_keep (.imm _) rfl
  · have h1 : (decide (1 ≤ a) && decide (a ≤ 1000)) = false := by simpa only [Bool.not_eq_true] using h1
    simp only [h1, cond_false, Bool.false_and, Bool.false_eq_true, false_implies, true_and]
    try simp only [Try.underlying3, Try.underlying4, Try.underlying22, Try.underlying25, j_one, j_side, j_tl, j_fl, Jn, nod_nod, nod_imm, nod_ints, nd_no, nd_own, nd_full, nd_fO, oF_ap, oF_succ, nod_arr_no, nod_arr_own, nod_arr_full, nod_sl, nod_ptr, nod_cptr, nod_fn, nod_junk, nodL_imm, nod_agg, nod_tup, nod2_imm, nod2_agg, cl_imm, cl_ints, cl_agg, e_add, e_sub, e_mul, e_quo, e_rem, e_eql, e_neq, e_lss, e_leq, e_gtr, e_geq, e_beq, e_bne, e_neg, e_not, e_pick, e_cond, e_gT, e_gF, e_len, e_lenA, e_lenS, e_ix, e_ixS, e_ldc, e_ldci, e_fa, e_mk, rep_cl, rep_I, e_bx, okE_I, okE_B, okE_E8, okE_ints, stV_imm, stV_ints, j_and', j_or', List.getD_cons_zero, List.getD_cons_succ, List.map_cons, List.map_nil, decide_eq_true_eq, Int.toNat_natCast, Nat.mul_one, Nat.zero_add, true_and, and_true, List.length_map, Bool.not_eq_true', decide_eq_false_iff_not, nod_lists, e_lenL, e_ixL, okE_lists, bs1, bs1L, bs2L, e_app, e_appL, e_app0, e_app0L, e_slcLo, e_slcHi, e_slcLH, e_slcHH, e_slcLHH, e_callG, e_callY, e_calmG, e_slS0, e_slSLo, e_slSHi, e_slSLH, e_slSHH, e_slSLHH, e_max2, e_min2, e_max3, e_x20, e_x21, e_x30, e_x31, e_x32, nod2_ints, nod2_lists, rep_fl, bs0, e_nilE, if_true, if_false, cond_true, cond_false, decide_true, decide_false, eq_self, Bool.false_eq_true, false_implies, true_implies, ap_own, ap_full, e_slcLoL, e_slcHiL, e_slcLHL, hp_assoc, hp_cons, hp_nil, hp_len, hp_len_cons, hp_len_nil, lv_cons, lv_nil, vs_0, vs_s, spl_s, spl_0, spl_n, dr_s, dr_0, tk_s, tk_0, e_bxI, e_fac, e_facA, e_ldcA, e_ldcL, e_ldcF, okE_agg, ck_I, ck_B, ck_ints, ck_lists, ck_arr, ck_ptr, ck_cptr, ck_fn, all_c, all_n, stV_agg, stV_lists, stV_arr, stV_ptr, stV_cptr, stV_fn, nodL_ints, nodL_lists, nodL_ptr, nodL_cptr, nodL_fn, nodL_arr0, cl_arr, cl_ptr, cl_cptr, cl_fn, cl_lists, okE_arr, okE_fn, okE_ptr, okE_cptr, e_bd0, e_bd1, Nat.reduceAdd, Nat.reduceLeDiff, Nat.reduceEqDiff, Nat.add_zero, Bool.and_self, Bool.true_and, Bool.and_true, e_lc0, e_lA0, e_lM0, e_sc0, e_rc0, e_rA0, e_lI0, e_sI0, e_cI0, e_lc1, e_lA1, e_lM1, e_sc1, e_rc1, e_rA1, e_lI1, e_sI1, e_cI1, e_lc2, e_lA2, e_lM2, e_sc2, e_rc2, e_rA2, e_lI2, e_sI2, e_cI2, e_lc3, e_lA3, e_lM3, e_sc3, e_rc3, e_rA3, e_lI3, e_sI3, e_cI3, e_lc4, e_lA4, e_lM4, e_sc4, e_rc4, e_rA4, e_lI4, e_sI4, e_cI4, e_lc5, e_lA5, e_lM5, e_sc5, e_rc5, e_rA5, e_lI5, e_sI5, e_cI5, own0_arr, own0_ints, own0_lists, own0_imm, own0_ptr, own0_cptr, own0_fn, own0_agg, e_appB, e_appB0, ck_sl, own0_sl, stV_sl, nodL_sl, cl_sl, okE_sl]
    exact end_keep (.imm _) rfl
theorem c85 (s m : List Int) (H : Hp) : Ret Try.prog 85 [mkd s m] H (.fn 96 [.cptr (mkd s m)]) H := by
  refine mk85 _ rfl (Nat.le_refl _) (.inl rfl) ?_
  simp only [vc85, real]
  simp only [nod_agg, List.map_cons, nodL_ints, nd_no, List.map_nil, e_bxI, okE_agg, lv_cons, lv_nil, Nat.zero_add, Nat.reduceAdd, all_c, ck_ints, all_n, Bool.and_self, and_true, nod_cptr, true_and]
  refine end1 (.keep _ (.fn _ _ fun c hc => ?_))
  simp at hc
  subst hc
  refine .cptr _ (.agg _ fun c hc => ?_)
  simp at hc
  rcases hc with rfl | rfl <;> exact bel_ints _ _ _

/-! ### Periods -/
def per (s m : List Int) (i : Nat) : List Int := (s.take (m.getD (i + 1) 0).toNat).drop (m.getD i 0).toNat
def perL (s m : List Int) : List (List Int) := (List.range (m.length - 1)).map (per s m)
structure Mkd (s m : List Int) : Prop where
  smp : Smp s
  len : s.length ≤ 100000
  two : 2 ≤ m.length
  lo : ∀ i : Nat, i < m.length → 0 ≤ m.getD i 0
  hi : ∀ i : Nat, i < m.length → m.getD i 0 ≤ s.length
  inc : ∀ i : Nat, i + 1 < m.length → m.getD i 0 < m.getD (i + 1) 0
theorem markE_zero {s m : List Int} (h : markE s m = 0) : Mkd s m := by
  unfold markE at h
  split at h
  · rename_i h0; exact absurd h h0
  · rename_i h0
    split at h
    · rename_i hb
      have hb := (mkB_iff _ _).1 hb
      have hw := waveE_zero (Decidable.not_not.1 h0)
      refine ⟨hw.2, hw.1, hb.1, fun i hi => ((mkAt_iff _ _ _).1 (hb.2 i hi)).1, fun i hi => ((mkAt_iff _ _ _).1 (hb.2 i hi)).2.1, fun i hi => ?_⟩
      have := ((mkAt_iff _ _ _).1 (hb.2 (i + 1) hi)).2.2
      simp at this
      simpa [List.getD_eq_getElem?_getD] using this
    · cases h
theorem Mkd.ok {s m : List Int} (h : Mkd s m) : markE s m = 0 := by
  unfold markE
  rw [if_neg (by simp [waveE_of h.len h.smp]), if_pos ((mkB_iff _ _).2 ⟨h.two, fun i hi => (mkAt_iff _ _ _).2 ⟨h.lo i hi, h.hi i hi, ?_⟩⟩)]
  rcases Nat.eq_zero_or_pos i with h0 | h0
  · exact .inl h0
  · have := h.inc (i - 1) (by omega)
    rw [Nat.sub_add_cancel h0] at this
    exact .inr this
theorem Mkd.mlen_aux {s m : List Int} (h : Mkd s m) : ∀ i : Nat, i < m.length → (i : Int) ≤ m.getD i 0
  | 0, hi => h.lo 0 hi
  | i + 1, hi => by
    have h1 := h.mlen_aux i (by omega)
    have h2 := h.inc i hi
    omega
theorem Mkd.mlen {s m : List Int} (h : Mkd s m) : m.length ≤ 100001 := by
  have h1 := h.mlen_aux (m.length - 1) (by have := h.two; omega)
  have h2 := h.hi (m.length - 1) (by have := h.two; omega)
  have := h.len
  omega
theorem per_length {s m : List Int} (h : Mkd s m) (i : Nat) (hi : i + 1 < m.length) : ((per s m i).length : Int) = m.getD (i + 1) 0 - m.getD i 0 := by
  have h1 := h.hi (i + 1) hi
  have h2 := h.inc i hi
  have h3 := h.lo i (by omega)
  unfold per
  simp only [List.length_drop, List.length_take]
  omega
theorem perL_length (s m : List Int) : (perL s m).length = m.length - 1 := by simp [perL]
theorem perL_get (s m : List Int) (i : Nat) (hi : i + 1 < m.length) : (perL s m).getD i [] = per s m i := by
  unfold perL
  have : i < m.length - 1 := by omega
  simp [List.getD_eq_getElem?_getD, this]
theorem perL_mem {s m : List Int} (h : Mkd s m) {x : List Int} (hx : x ∈ perL s m) : x ≠ [] ∧ x.length ≤ 100000 ∧ Smp x := by
  unfold perL at hx
  obtain ⟨i, hi, rfl⟩ := List.mem_map.1 hx
  rw [List.mem_range] at hi
  have h1 := per_length h i (by omega)
  have h2 := h.inc i (by omega)
  refine ⟨fun e => by rw [e] at h1; simp only [List.length_nil] at h1; omega, ?_, ?_⟩
  · have h3 := h.hi (i + 1) (by omega)
    have h4 := h.lo i (by omega)
    have := h.len
    omega
  · unfold per; exact (h.smp.take _).drop _
theorem c96 (s m : List Int) (b : Nat) (hs : Nat → Hp) (h : Mkd s m) (hy : ∀ i : Nat, i + 1 < m.length → RetY Try.prog b [ints (per s m i) .no] (hs i) (B true) (hs (i + 1)))
    (hlen : (hs 0).length ≤ (hs (m.length - 1)).length) (hbel : ∀ (b : Nat) (blk : Blk), (hs (m.length - 1))[b]? = some blk → (hs 0)[b]? = some blk ∨ BelB (hs (m.length - 1)).length blk) :
    Ret Try.prog 96 [.yld b, .cptr (mkd s m)] (hs 0) (.tup []) (hs (m.length - 1)) := by
  refine mk96 _ _ rfl hlen (.inr hbel) ?_
  simp only [vc96, real]
  simp only [nod_nod, Try.underlying3, Jn, List.getD_cons_succ, List.getD_cons_zero]
  have h2 := h.two
  have hml := h.mlen
  refine loop_of (fun i : Nat => i + 1 ≤ m.length) (fun i => [.yld b, .cptr (mkd s m), I (i + 1)]) (fun i => hs i) (fun i => m.length - i) 0 (by omega) rfl rfl ?_
  intro i hi
  simp only [mkd]
  simp only [List.getD_cons_succ, List.getD_cons_zero, nod_cptr, nod_imm, e_add, e_fac, Nat.reduceAdd, lv_cons, lv_nil, Nat.zero_add, Nat.reduceLeDiff, e_ldci, nod_ints, nd_no, e_ix, e_ldc, true_and, e_sub, e_slcLHH, nd_full, e_len, e_lss, e_cond, decide_eq_true_eq]
  split
  · rename_i hlt
    have hlt' : i + 1 < m.length := by omega
    have e1 : ((i : Int) + 1 - 1).toNat = i := by omega
    have e2 : ((i : Int) + 1).toNat = i + 1 := by omega
    have b1 := h.lo i (by omega)
    have b2 := h.inc i hlt'
    have b3 := h.hi (i + 1) hlt'
    rw [e1, e2]
    repeat (refine And.intro (by first | (unfold R64; omega) | omega | assumption | (intros; (try simp only [Bool.or_eq_true, Bool.and_eq_true, Bool.not_eq_true', Bool.or_eq_false_iff, Bool.and_eq_false_iff, decide_eq_false_iff_not, decide_eq_true_eq, Bool.not_eq_true, Bool.not_eq_false'] at *); (try unfold R64); omega)) ?_)
    refine ⟨B true, _, (hy i hlt').weak (.cons (.full _) .nil), ?_⟩
    simp only [nod_imm, e_not, e_cond, Bool.not_eq_true']
    exact ⟨(by unfold R64; omega), i + 1, by omega, rfl, rfl, by omega⟩
  · have : i = m.length - 1 := by omega
    subst this
    exact ⟨.keep _ (.tup _ fun c hc => by simp at hc), by simp⟩
theorem c32 (s m : List Int) (H : Hp) (h : Mkd s m) : Ret Try.prog 32 [mkd s m] H (lists (perL s m) .no) H := by
  refine mk32 _ rfl (Nat.le_refl _) (.inl rfl) ?_
  simp only [vc32, real]
  simp only [nod_agg, List.map_cons, nodL_ints, nd_no, List.map_nil, nod_nod, Try.underlying3, Jn, List.getD_cons_succ, List.getD_cons_zero, e_bxI, okE_agg, lv_cons, lv_nil, Nat.zero_add, Nat.reduceAdd, all_c, ck_ints, all_n, Bool.and_self, and_true, true_and]
  have h2 := h.two
  have hml := h.mlen
  refine loop_of (fun i : Nat => i + 1 ≤ m.length) (fun i => [.cptr (mkd s m), lists ((List.range i).map (per s m)) (oF i), I i]) (fun _ => H) (fun i => m.length - i) 0 (by omega) rfl rfl ?_
  intro i hi
  simp only [mkd]
  simp only [List.getD_cons_succ, List.getD_cons_zero, nod_imm, nod_cptr, e_add, e_fac, Nat.reduceAdd, lv_cons, lv_nil, Nat.zero_add, Nat.reduceLeDiff, e_ldci, nod_ints, nd_no, e_ix, e_ldc, true_and, Int.toNat_natCast, e_slcLH, bs1L, nod_lists, nd_full, e_appL, oF_ap, List.length_map, e_len, e_lss, e_cond, decide_eq_true_eq]
  refine ⟨(by unfold R64; omega), ?_⟩
  split
  · rename_i hlt
    have hlt' : i + 1 < m.length := by omega
    have e2 : ((i : Int) + 1).toNat = i + 1 := by omega
    have b1 := h.lo i (by omega)
    have b2 := h.inc i hlt'
    have b3 := h.hi (i + 1) hlt'
    rw [e2]
    repeat (refine And.intro (by first | (unfold R64; omega) | omega | assumption | (intros; (try simp only [Bool.or_eq_true, Bool.and_eq_true, Bool.not_eq_true', Bool.or_eq_false_iff, Bool.and_eq_false_iff, decide_eq_false_iff_not, decide_eq_true_eq, Bool.not_eq_true, Bool.not_eq_false'] at *); (try unfold R64); omega)) ?_)
    refine And.intro (by simp; omega) ?_
    repeat (refine And.intro (by first | (unfold R64; omega) | omega | assumption | (intros; (try simp only [Bool.or_eq_true, Bool.and_eq_true, Bool.not_eq_true', Bool.or_eq_false_iff, Bool.and_eq_false_iff, decide_eq_false_iff_not, decide_eq_true_eq, Bool.not_eq_true, Bool.not_eq_false'] at *); (try unfold R64); omega)) ?_)
    refine ⟨i + 1, by omega, ?_, by omega⟩
    rw [List.range_succ, List.map_append]
    rfl
  · have : i = m.length - 1 := by omega
    subst this
    exact end_lists

/-! ### Steps -/
def strP (l : List (List Int)) (a b : Int) : List (List Int) := (List.range (nearV l.length a b).toNat).map fun (j : Nat) => l.getD (((j : Int) * l.length).tdiv (nearV l.length a b)).toNat []
theorem div_lt {j m n : Int} (hj : 0 ≤ j) (hjn : j < n) (hm : 0 < m) : 0 ≤ (j * m).tdiv n ∧ (j * m).tdiv n < m := by
  have h0 := Int.mul_nonneg hj (show (0 : Int) ≤ m by omega)
  refine ⟨Int.tdiv_nonneg h0 (by omega), ?_⟩
  rw [Int.tdiv_eq_ediv_of_nonneg h0]
  refine Int.ediv_lt_of_lt_mul (by omega) ?_
  rw [Int.mul_comm m n]
  exact Int.mul_lt_mul_of_pos_right hjn hm
theorem mul_bd {j m J M : Int} (hj : 0 ≤ j) (hJ : j ≤ J) (hm : 0 ≤ m) (hM : m ≤ M) : 0 ≤ j * m ∧ j * m ≤ J * M :=
  ⟨Int.mul_nonneg hj hm, Int.mul_le_mul hJ hM hm (by omega)⟩
theorem c65 (a b : Int) (l : List (List Int)) (H : Hp) (hl : l ≠ []) (hn : l.length ≤ 1000000) (hr : ratioB a b = true) : Ret Try.prog 65 [rat a b, lists l .no] H (lists (strP l a b) .no) H := by
  have hr := (ratioB_iff _ _).1 hr
  have hpos : 0 < l.length := List.length_pos_iff.2 hl
  refine mk65 _ _ rfl (Nat.le_refl _) (.inl rfl) ?_
  simp only [vc65, real]
  simp only [nod_agg, List.map_cons, nodL_imm, List.map_nil, nod_lists, nd_no, Jn, nod_nod, List.getD_cons_zero, List.getD_cons_succ, Try.underlying3, e_lenL, nod_imm, e_bxI, okE_agg, lv_cons, lv_nil, Nat.zero_add, Nat.reduceAdd, all_c, ck_I, all_n, Bool.and_self, and_true, nod_cptr, e_fac, Nat.reduceLeDiff, e_ldc, true_and]
  refine call_of (c86 l.length a b H (by omega) (by omega) (by omega) (by omega) (by omega) (by omega)) ?_
  have hb := nearV_bd (n := l.length) (a := a) (b := b) (by omega) (by omega) (by omega) (by omega) (by omega) (by omega) (by omega)
  unfold strP
  generalize hN : nearV l.length a b = N at *
  refine loop_of (fun i : Nat => (i : Int) ≤ N) (fun i => [lists l .no, I l.length, I N, lists ((List.range i).map fun (j : Nat) => l.getD (((j : Int) * l.length).tdiv N).toNat []) (oF i), I N, I i]) (fun _ => H) (fun i => N.toNat - i) 0 (by omega) rfl rfl ?_
  intro i hi
  simp only [List.getD_cons_succ, List.getD_cons_zero, nod_imm, nod_lists, nd_no, e_add, e_mul, e_quo, e_ixL, nod_cptr, e_ldci, nod_ints, bs1L, nd_full, true_and, e_appL, oF_ap, List.length_map, e_lss, e_cond, decide_eq_true_eq]
  split
  · rename_i hlt
    have d := div_lt (j := i) (m := l.length) (n := N) (by omega) hlt (by omega)
    have mb := mul_bd (j := i) (m := l.length) (J := 16000001) (M := 1000000) (by omega) (by omega) (by omega) (by omega)
    repeat (refine And.intro (by first | (unfold R64; omega) | omega | assumption | (intros; (try simp only [Bool.or_eq_true, Bool.and_eq_true, Bool.not_eq_true', Bool.or_eq_false_iff, Bool.and_eq_false_iff, decide_eq_false_iff_not, decide_eq_true_eq, Bool.not_eq_true, Bool.not_eq_false'] at *); (try unfold R64); omega)) ?_)
    refine And.intro (by simp; omega) ?_
    refine And.intro (by unfold R64; omega) ?_
    refine ⟨i + 1, by omega, ?_, by omega⟩
    rw [List.range_succ, List.map_append]
    rfl
  · have : i = N.toNat := by omega
    subst this
    exact end_lists
def trP1 (p : List Int) (a b : Int) : List Int := (List.range (nearV p.length b a).toNat).map fun i => p.getD (min i (p.length - 1)) 0
def trP (l : List (List Int)) (a b : Int) : List (List Int) := l.map fun p => trP1 p a b
theorem trP1_length (p : List Int) (a b : Int) : (trP1 p a b).length = (nearV p.length b a).toNat := by simp [trP1]
theorem c66 (a b : Int) (l : List (List Int)) (H : Hp) (hl : l.length ≤ 1000000) (hp : ∀ p, p ∈ l → p ≠ [] ∧ p.length ≤ 1000000) (hr : ratioB a b = true) : Ret Try.prog 66 [rat a b, lists l .no] H (lists (trP l a b) .no) H := by
  have hr := (ratioB_iff _ _).1 hr
  refine mk66 _ _ rfl (Nat.le_refl _) (.inl rfl) ?_
  simp only [vc66, real]
  simp only [nod_agg, List.map_cons, nodL_imm, List.map_nil, nod_lists, nd_no, Try.underlying3, Jn, nod_nod, List.getD_cons_succ, List.getD_cons_zero, e_lenL, e_bxI, okE_agg, lv_cons, lv_nil, Nat.zero_add, Nat.reduceAdd, all_c, ck_I, all_n, Bool.and_self, and_true, true_and]
  refine loop_of (fun i : Nat => i ≤ l.length) (fun i => [.cptr (rat a b), lists ((l.take i).map fun p => trP1 p a b) (oF i), lists l .no, I l.length, I i]) (fun _ => H) (fun i => l.length - i) 0 (by omega) rfl rfl ?_
  intro i hi
  simp only [rat]
  simp only [List.getD_cons_succ, List.getD_cons_zero, nod_imm, nod_lists, nd_no, nod_cptr, e_fac, Nat.zero_add, lv_cons, lv_nil, Nat.reduceAdd, Nat.reduceLeDiff, e_ldc, true_and, e_ixL, Int.toNat_natCast, e_ldci, nod_ints, e_len, e_lss, e_cond, decide_eq_true_eq]
  split
  · rename_i hlt
    have hlt' : i < l.length := by omega
    have hmem := hp _ (hMemL l hlt')
    have et : l.take (i + 1) = l.take i ++ [l.getD i []] := by
      rw [List.take_add_one, getD_someL l hlt']; rfl
    repeat (refine And.intro (by first | (unfold R64; omega) | omega | assumption | (intros; (try simp only [Bool.or_eq_true, Bool.and_eq_true, Bool.not_eq_true', Bool.or_eq_false_iff, Bool.and_eq_false_iff, decide_eq_false_iff_not, decide_eq_true_eq, Bool.not_eq_true, Bool.not_eq_false'] at *); (try unfold R64); omega)) ?_)
    generalize l.getD i [] = p at *
    have hpos : 0 < p.length := List.length_pos_iff.2 hmem.1
    refine call_of (c86 p.length b a H (by omega) (by omega) (by omega) (by omega) (by omega) (by omega)) ?_
    have hb := nearV_bd (n := p.length) (a := b) (b := a) (by omega) (by omega) (by omega) (by omega) (by omega) (by omega) (by omega)
    simp only [nod_imm, e_min2, e_slcHi, nod_ints, nd_no]
    generalize hN : nearV p.length b a = N at *
    refine And.intro (by omega) ?_
    refine And.intro (by omega) ?_
    have hk : (min N (p.length : Int)).toNat = min N.toNat p.length := by omega
    rw [hk]
    refine call_of (c61o _ H (by simp; omega)) ?_
    refine loop_of (fun j : Nat => (j : Int) ≤ N ∧ min N.toNat p.length ≤ j) (fun j => [.cptr (rat a b), lists ((l.take i).map fun p => trP1 p a b) (oF i), ints p .no, I N, ints ((List.range j).map fun i => p.getD (min i (p.length - 1)) 0) .own, lists l .no, I l.length, I i]) (fun _ => H) (fun i => N.toNat - i) (min N.toNat p.length) ⟨by omega, by omega⟩ ?_ rfl ?_
    · have : (List.range (min N.toNat p.length)).map (fun i => p.getD (min i (p.length - 1)) 0) = List.take (min N.toNat p.length) p := by
        refine List.ext_getElem? fun q => ?_
        rw [List.getElem?_map, List.getElem?_take]
        by_cases hq : q < min N.toNat p.length
        · rw [List.getElem?_range hq, if_pos hq, getD_some p (by omega)]
          have : min q (p.length - 1) = q := by omega
          rw [Option.map_some, this]
        · rw [List.getElem?_eq_none (by simp; omega), if_neg hq]; rfl
      rw [this]
    · intro j hj
      simp only [rat]
      simp only [List.getD_cons_succ, List.getD_cons_zero, nod_ints, nd_own, nod_imm, nd_no, e_len, e_sub, e_ix, nod_cptr, e_ldc, true_and, bs1, nd_full, e_app, ap_own, List.length_map, List.length_range, bs1L, nod_lists, e_add, e_appL, oF_ap, e_lss, e_cond, decide_eq_true_eq]
      split
      · rename_i hjN
        repeat (refine And.intro (by first | (unfold R64; omega) | omega | assumption | (intros; (try simp only [Bool.or_eq_true, Bool.and_eq_true, Bool.not_eq_true', Bool.or_eq_false_iff, Bool.and_eq_false_iff, decide_eq_false_iff_not, decide_eq_true_eq, Bool.not_eq_true, Bool.not_eq_false'] at *); (try unfold R64); omega)) ?_)
        refine And.intro (by simp only [List.length_cons, List.length_nil]; omega) ?_
        refine ⟨j + 1, by omega, ?_, by omega⟩
        have e1 : ((p.length : Int) - 1).toNat = min j (p.length - 1) := by omega
        rw [List.range_succ, List.map_append, e1]
        rfl
      · have hjN : j = N.toNat := by omega
        subst hjN
        refine And.intro (by simp; omega) ?_
        refine ⟨(by unfold R64; omega), i + 1, by omega, ?_, by omega⟩
        rw [et, List.map_append]
        have : trP1 p a b = (List.range N.toNat).map (fun i => p.getD (min i (p.length - 1)) 0) := by unfold trP1; rw [hN]
        rw [List.map_cons, List.map_nil, this]
        rfl
  · have : i = l.length := by omega
    subst this
    rw [List.take_length]
    exact end_lists

/-! ### What is built -/
def cumS (h : Int) (l : List (List Int)) : Nat → Int
  | 0 => h
  | i + 1 => cumS h l i + (l.getD i []).length
def marksL (h : Int) (l : List (List Int)) : List Int := (List.range (l.length + 1)).map (cumS h l)
def headL (s m : List Int) : List Int := s.take (m.getD 0 0).toNat
def tailL (s m : List Int) : List Int := s.drop (m.getD (m.length - 1) 0).toNat
def builtS (s m : List Int) (l : List (List Int)) : List Int := headL s m ++ l.flatten ++ tailL s m
def builtM (s m : List Int) (l : List (List Int)) : List Int := marksL (headL s m).length l
theorem cumS_flat (h : List Int) (l : List (List Int)) : ∀ i : Nat, i ≤ l.length → cumS h.length l i = ((h ++ (l.take i).flatten).length : Int)
  | 0, _ => by simp [cumS]
  | i + 1, hi => by
    have hlt : i < l.length := by omega
    have e : l.take (i + 1) = l.take i ++ [l.getD i []] := by rw [List.take_add_one, getD_someL l hlt]; rfl
    rw [cumS, cumS_flat h l i (by omega), e]
    simp
    omega
theorem flat_bd (l : List (List Int)) (B : Nat) (h : ∀ x, x ∈ l → x.length ≤ B) : l.flatten.length ≤ l.length * B := by
  induction l with
  | nil => simp
  | cons x l ih =>
    have h1 := h x (by simp)
    have h2 := ih (fun y hy => h y (by simp [hy]))
    simp only [List.flatten_cons, List.length_append, List.length_cons, Nat.add_mul, Nat.one_mul]
    omega
theorem take_flat_le (l : List (List Int)) (i : Nat) : (l.take i).flatten.length ≤ l.flatten.length := by
  conv => rhs; rw [← List.take_append_drop i l, List.flatten_append, List.length_append]
  omega
theorem take_succL (l : List (List Int)) (i : Nat) (h : i < l.length) : l.take (i + 1) = l.take i ++ [l.getD i []] := by rw [List.take_add_one, getD_someL l h]; rfl
theorem Mkd.h0 {s m : List Int} (h : Mkd s m) : 0 ≤ m.getD 0 0 ∧ m.getD 0 0 ≤ s.length := ⟨h.lo 0 (by have := h.two; omega), h.hi 0 (by have := h.two; omega)⟩
theorem Mkd.h1 {s m : List Int} (h : Mkd s m) : 0 ≤ m.getD (m.length - 1) 0 ∧ m.getD (m.length - 1) 0 ≤ s.length := ⟨h.lo _ (by have := h.two; omega), h.hi _ (by have := h.two; omega)⟩
theorem headL_le {s m : List Int} (h : Mkd s m) : (headL s m).length ≤ 100000 := by
  unfold headL
  have := h.len
  simp only [List.length_take]
  omega
theorem tailL_le {s m : List Int} (h : Mkd s m) : (tailL s m).length ≤ 100000 := by
  unfold tailL
  have := h.len
  simp only [List.length_drop]
  omega
theorem c68 (s m : List Int) (l : List (List Int)) (H : Hp) (h : Mkd s m) (hl : l.length ≤ 100000000) (hf : l.flatten.length ≤ 1000000000000) : Ret Try.prog 68 [mkd s m, lists l .no] H (mkd (builtS s m l) (builtM s m l)) H := by
  refine mk68 _ _ rfl (Nat.le_refl _) (.inl rfl) ?_
  simp only [vc68, real]
  simp only [nod_agg, List.map_cons, nodL_ints, nd_no, List.map_nil, Try.underlying3, Jn, List.getD_cons_zero, List.getD_cons_succ, nod_nod, e_bx, okE_agg, lv_cons, lv_nil, Nat.zero_add, Nat.reduceAdd, all_c, ck_arr, all_n, Bool.and_self, and_true, cl_agg, nod_ptr, e_fa, Nat.add_zero, true_and, hp_assoc, hp_cons, hp_nil, hp_len, hp_len_cons, hp_len_nil, e_bxI, ck_ints, nod_cptr, e_fac, Nat.reduceLeDiff, e_ldci, nod_ints, e_ix, e_ldc, nod_imm, e_slcHi, e_lM1, e_app0, nodL_arr0, vs_0, e_sc1, stV_ints, okE_ints, cl_ints, spl_0, spl_n, e_len, e_sub]
  have h2 := h.two
  have b1 := h.h0
  have b2 := h.h1
  have hml := h.mlen
  have hh := headL_le h
  have ht := tailL_le h
  have e0 : List.take (m.getD (Int.toNat 0) 0).toNat s = headL s m := rfl
  have e1 : ((m.length : Int) - 1).toNat = m.length - 1 := by omega
  rw [e0]
  refine ⟨(by unfold R64; omega), by omega, by omega, b1.1, b1.2, by omega, ?_⟩
  unfold builtM builtS
  have et : List.drop (m.getD (m.length - 1) 0).toNat s = tailL s m := rfl
  generalize headL s m = hd at *
  refine loop_of (fun i : Nat => i ≤ l.length) (fun i => [lists l .no, .cptr (mkd s m), .ptr H.length 0, .ptr (H.length + 1) 0, I ((m.length : Int) - 1), I i]) (fun i => H ++ [Blk.cells [V.arr [] .full, V.arr [] .full], Blk.cells [ints (hd ++ (l.take i).flatten) .own, ints ((List.range i).map (cumS hd.length l)) (oF i)]]) (fun i => l.length - i) 0 (by omega) rfl (by simp; rfl) ?_
  intro i hi
  have hfi := take_flat_le l i
  have hc := cumS_flat hd l i hi
  have hsl : (hd ++ (l.take i).flatten).length ≤ 1000000100000 := by simp only [List.length_append]; omega
  have hms : ((List.range i).map (cumS hd.length l) ++ [cumS hd.length l i]) = (List.range (i + 1)).map (cumS hd.length l) := by rw [List.range_succ, List.map_append]; rfl
  simp only [mkd]
  simp only [List.getD_cons_zero, nod_lists, nd_no, List.getD_cons_succ, nod_imm, nod_ptr, e_add, e_fa, Nat.add_zero, e_ixL, Int.toNat_natCast, nod_cptr, e_ldci, nod_ints, Nat.zero_add, e_lM1, Nat.reduceAdd, lv_cons, lv_nil, Nat.reduceLeDiff, nodL_ints, vs_s, vs_0, e_lc1, nd_own, e_sc1, spl_s, e_app, ap_own, stV_ints, okE_ints, cl_ints, spl_0, spl_n, true_and, e_len, bs1, nd_full, oF_ap, List.length_map, e_fac, e_ix, e_ldc, e_slcLo, e_lA1, dr_0, tk_s, nod_agg, List.map_cons, e_sc0, stV_agg, okE_agg, Nat.reduceEqDiff, all_c, ck_ints, Bool.true_and, cl_agg, e_rA0, tk_0, List.map_nil, all_n, Bool.and_self, and_true, e_lenL, e_lss, e_cond, decide_eq_true_eq]
  rw [← hc, hms]
  split
  · rename_i hlt
    have hlt' : i < l.length := by omega
    have hfi2 := take_flat_le l (i + 1)
    rw [take_succL l i hlt'] at hfi2
    simp only [List.flatten_append, List.flatten_cons, List.flatten_nil, List.append_nil, List.length_append] at hfi2
    refine And.intro (by simp; omega) ?_
    repeat (refine And.intro (by first | (unfold R64; omega) | omega | assumption | (intros; (try simp only [Bool.or_eq_true, Bool.and_eq_true, Bool.not_eq_true', Bool.or_eq_false_iff, Bool.and_eq_false_iff, decide_eq_false_iff_not, decide_eq_true_eq, Bool.not_eq_true, Bool.not_eq_false'] at *); (try unfold R64); omega)) ?_)
    refine ⟨i + 1, by omega, rfl, ?_, by omega⟩
    rw [take_succL l i hlt', List.flatten_append, ← List.append_assoc]
    simp
    rfl
  · have : i = l.length := by omega
    subst this
    rw [e1]
    refine And.intro (by simp; omega) ?_
    rw [et]
    repeat (refine And.intro (by first | (unfold R64; omega) | omega | assumption | (intros; (try simp only [Bool.or_eq_true, Bool.and_eq_true, Bool.not_eq_true', Bool.or_eq_false_iff, Bool.and_eq_false_iff, decide_eq_false_iff_not, decide_eq_true_eq, Bool.not_eq_true, Bool.not_eq_false'] at *); (try unfold R64); omega)) ?_)
    rw [List.take_length]
    exact end1A (fzM _ _ _ _)
end Go.Proofs.Ytehjfjdknllmhaa
