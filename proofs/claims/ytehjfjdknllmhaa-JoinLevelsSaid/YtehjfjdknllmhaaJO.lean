/- Contracts of join's functions, eleventh part: the examples. -/
import Derived.Test.YtehjfjdknllmhaaJN
set_option linter.unusedVariables false
set_option linter.unusedSimpArgs false
set_option linter.unnecessarySimpa false
set_option maxRecDepth 20000
set_option maxHeartbeats 2000000
namespace Go.Proofs.Ytehjfjdknllmhaa
open Go Go.Ab Go.Proofs
attribute [local congr] g_bin g_nilS g_nilP g_un g_ext g_bx g_fa g_ld g_st g_ix g_ixA g_slc g_mk g_bs g_bd g_nc g_cv g_len g_lenT g_app g_appB g_cpy g_mm g_call g_callG g_calm g_calmG g_range g_res g_pick g_cond g_loop g_Jv
theorem bs2 (a b : Int) {K : V → Prop} : aBS 1 2 (I 0) [(0, I a), (1, I b)] K = K (ints [a, b] .full) := by simp [aBS, aPs, setP, okE_I, ints]
theorem bs3 (a b c : Int) {K : V → Prop} : aBS 1 3 (I 0) [(0, I a), (1, I b), (2, I c)] K = K (ints [a, b, c] .full) := by simp [aBS, aPs, setP, okE_I, ints]
theorem bs4 (a b c d : Int) {K : V → Prop} : aBS 1 4 (I 0) [(0, I a), (1, I b), (2, I c), (3, I d)] K = K (ints [a, b, c, d] .full) := by simp [aBS, aPs, setP, okE_I, ints]
theorem bs5 (a b c d e : Int) {K : V → Prop} : aBS 1 5 (I 0) [(0, I a), (1, I b), (2, I c), (3, I d), (4, I e)] K = K (ints [a, b, c, d, e] .full) := by simp [aBS, aPs, setP, okE_I, ints]
theorem bs6 (a b c d e f : Int) {K : V → Prop} : aBS 1 6 (I 0) [(0, I a), (1, I b), (2, I c), (3, I d), (4, I e), (5, I f)] K = K (ints [a, b, c, d, e, f] .full) := by simp [aBS, aPs, setP, okE_I, ints]
theorem bs10 (a b c d e f g h i j : Int) {K : V → Prop} : aBS 1 10 (I 0) [(0, I a), (1, I b), (2, I c), (3, I d), (4, I e), (5, I f), (6, I g), (7, I h), (8, I i), (9, I j)] K = K (ints [a, b, c, d, e, f, g, h, i, j] .full) := by simp [aBS, aPs, setP, okE_I, ints]
theorem bs3L (a b c : List Int) (f g h : Fl) {K : V → Prop} : aBS 1 3 (.arr [] .full) [(0, ints a f), (1, ints b g), (2, ints c h)] K = K (.arr [ints a f, ints b g, ints c h] .full) := by simp [aBS, aPs, setP, okE_ints]
abbrev exS : List Int := [5, 1, 2, 3, 4, 6]
abbrev exM : List Int := [1, 3, 5]
theorem c56 (H : Hp) : Ret Try.prog 56 [] H (mkd exS exM) H := by
  refine mk56  rfl (Nat.le_refl _) (.inl rfl) ?_
  simp only [vc56, real]
  simp only [nod_nod, e_bd1, Nat.zero_add, lv_cons, lv_nil, Nat.reduceAdd, Nat.reduceLeDiff, e_bd0, true_and, e_bx, okE_agg, all_c, ck_arr, all_n, Bool.and_self, and_true, nod_ptr, cl_agg, e_sc0]
  simp only [bs3, nod_ints, nd_full, okE_ints, cl_ints, true_and, bs6, spl_0, spl_n, lv_cons, lv_nil, Nat.zero_add, Nat.reduceAdd, Nat.reduceLeDiff, spl_s, own0_ints, stV_agg, List.map_cons, nodL_ints, List.map_nil, okE_agg, all_c, ck_ints, all_n, Bool.and_self, and_true, cl_agg, e_rA0, dr_0, tk_s, tk_0]
  exact end1A (fzM _ _ _ _)
theorem k38 (H : Hp) : Ret Try.prog 38 [ints [9, 1, 2] .no, ints [0, 1, 2] .no, I 2, I 5] H (.tup [I 1, I 0, I 0]) H := by
  have h := c38 [9, 1, 2] [0, 1, 2] 2 5 H (by decide) (by decide)
  rw [show lagE [9, 1, 2] [0, 1, 2] 2 5 = 0 by decide +kernel, show lagA [9, 1, 2] [0, 1, 2] 2 (lagM [0, 1, 2] 2 5) = 1 by decide +kernel, show leastA [9, 1, 2] [0, 1, 2] 2 (lagM [0, 1, 2] 2 5) = 0 by decide +kernel] at h
  exact h
theorem k19 (H : Hp) : Ret Try.prog 19 [ints [0, 0, 0] .no, ints [8, 8, 8] .no] H (.tup [ints [2, 4, 6] .no, I 0]) H := by
  have h := c19 [0, 0, 0] [8, 8, 8] H (by decide) (by decide)
  rw [show fadeR [0, 0, 0] [8, 8, 8] = [2, 4, 6] by decide +kernel, show fadeE [0, 0, 0] [8, 8, 8] = 0 by decide +kernel] at h
  exact h
theorem k24 (H : Hp) : Ret Try.prog 24 [I 1, I 9, lists [[1, 2], [2, 3], [3, 4]] .no] H (.tup [ints [1, 2, 3, 4] .no, ints [0, 1, 2] .no, I 0]) H := by
  have h := c24 [[1, 2], [2, 3], [3, 4]] 1 9 H (by simp)
  rw [show chainR 1 9 [[1, 2], [2, 3], [3, 4]] = ([1, 2, 3, 4], [0, 1, 2], 0) by decide +kernel] at h
  exact h
theorem k27 (H : Hp) : Ret Try.prog 27 [mkd exS exM, I 2, I 1] H (.tup [mkd [5, 1, 2, 1, 2, 3, 4, 3, 4, 6] [1, 3, 5, 7, 9], I 0]) H := by
  have h := c27 exS exM 2 1 H (by decide) (by decide)
  rw [show strP (perL exS exM) 2 1 = [[1, 2], [1, 2], [3, 4], [3, 4]] by decide +kernel] at h
  unfold chV at h
  rw [if_neg (by decide +kernel), if_neg (by decide +kernel), if_neg (by decide +kernel), show builtS exS exM [[1, 2], [1, 2], [3, 4], [3, 4]] = [5, 1, 2, 1, 2, 3, 4, 3, 4, 6] by decide +kernel, show builtM exS exM [[1, 2], [1, 2], [3, 4], [3, 4]] = [1, 3, 5, 7, 9] by decide +kernel] at h
  exact h
theorem k28 (H : Hp) : Ret Try.prog 28 [mkd exS exM, I 2, I 1] H (.tup [mkd [5, 1, 3, 6] [1, 2, 3], I 0]) H := by
  have h := c28 exS exM 2 1 H (by decide) (by decide)
  rw [show trP (perL exS exM) 2 1 = [[1], [3]] by decide +kernel] at h
  unfold chV at h
  rw [if_neg (by decide +kernel), if_neg (by decide +kernel), if_neg (by decide +kernel), show builtS exS exM [[1], [3]] = [5, 1, 3, 6] by decide +kernel, show builtM exS exM [[1], [3]] = [1, 2, 3] by decide +kernel] at h
  exact h
theorem k52 (H : Hp) : Ret Try.prog 52 [ints [30000] .no, I 2, I 1] H (.tup [ints [32767] .no, I 1, I 0]) H := by
  have h := c52 [30000] 2 1 H (by decide)
  unfold gainV at h
  rw [if_neg (by decide +kernel), show gainL [30000] 2 1 = [32767] by decide +kernel, show gainC [30000] 2 1 ([30000] : List Int).length = 1 by decide +kernel] at h
  exact h
theorem k21 (l : List Int) (f : Fl) (H : Hp) (hl : l.length ≤ 1000000000) : Ret Try.prog 21 [ints l .no, ints l .no] H (B true) H := by
  have h := c21 l l H hl
  rw [decide_eq_true (rfl : l = l)] at h
  exact h
theorem c18 (H : Hp) : Ret Try.prog 18 [] H (B true) H := by
  refine mk18  rfl (Nat.le_refl _) (.inl rfl) ?_
  simp only [vc18, real]
  simp only [nod_nod, Jn, List.getD_cons_zero, List.getD_cons_succ, Try.underlying25, Try.underlying3, e_bd1, Nat.zero_add, lv_cons, lv_nil, Nat.reduceAdd, Nat.reduceLeDiff, e_bd0, true_and, bs1, nod_ints, nd_full, e_bx, okE_agg, all_c, ck_arr, all_n, Bool.and_self, and_true, nod_ptr, cl_agg, e_sc0, e_fa, Nat.add_zero]
  simp only [bs4, nod_ints, nd_full, bs3, bs10, bs5, okE_ints, cl_ints, true_and, spl_0, spl_n, lv_cons, lv_nil, Nat.zero_add, Nat.reduceAdd, Nat.reduceLeDiff, spl_s, own0_ints, nod_agg, List.map_cons, nodL_ints, List.map_nil, bs2, bs3L, nod_arr_full]
  refine call_wk (k38 _) (.cons (.full _) (.cons (.full _) (.cons (.refl _) (.cons (.refl _) .nil)))) ?_
  simp only [nod_tup, List.map_cons, nod2_imm, List.map_nil, e_x32, nod_imm, e_neq, decide_true, e_gF, e_x31, e_x30]
  refine call_wk (k19 _) (.cons (.full _) (.cons (.full _) .nil)) ?_
  simp only [nod_tup, List.map_cons, nod2_ints, nd_no, nod2_imm, List.map_nil, e_x21, nod_imm, e_neq, decide_true, j_or', j_one, e_gF, e_x20, nod_ints]
  refine call_wk (k24 _) (.cons (.refl _) (.cons (.refl _) (.cons (.sub [[I 1, I 2], [I 2, I 3], [I 3, I 4]]) .nil))) ?_
  simp only [nod_tup, List.map_cons, nod2_ints, nd_no, nod2_imm, List.map_nil, e_x32, nod_imm, e_neq, decide_true, j_or', j_one, e_gF, e_x31, nod_ints, e_x30]
  refine call_of (c56 _) ?_
  simp only [nod_agg, List.map_cons, nodL_ints, nd_no, List.map_nil]
  refine call_of (k27 _) ?_
  simp only [nod_tup, List.map_cons, nod2_agg, nodL_ints, nd_no, List.map_nil, nod2_imm, e_x21, nod_imm, e_neq, decide_true, j_or', j_one, e_gF, e_x20, stV_agg, okE_agg, lv_cons, lv_nil, Nat.zero_add, Nat.reduceAdd, all_c, ck_ints, all_n, Bool.and_self, and_true, cl_agg, spl_0, spl_n, true_and]
  refine call_of (c56 _) ?_
  simp only [nod_agg, List.map_cons, nodL_ints, nd_no, List.map_nil]
  refine call_of (k28 _) ?_
  simp only [nod_tup, List.map_cons, nod2_agg, nodL_ints, nd_no, List.map_nil, nod2_imm, hp_assoc, hp_cons, hp_nil, hp_len, hp_len_cons, hp_len_nil, Nat.zero_add, e_x21, nod_imm, e_neq, decide_true, j_or', j_one, e_gF, e_x20, stV_agg, okE_agg, lv_cons, lv_nil, Nat.reduceAdd, all_c, ck_ints, all_n, Bool.and_self, and_true, cl_agg, spl_0, spl_n, true_and]
  refine call_wk (k52 _) (.cons (.full _) (.cons (.refl _) (.cons (.refl _) .nil))) ?_
  simp only [nod_tup, List.map_cons, nod2_ints, nd_no, nod2_imm, List.map_nil, e_x32, nod_imm, e_neq, decide_true, j_or', j_one, e_gF, e_x31, e_cond, e_x30, nod_ints]
  rw [if_neg (by decide)]
  refine call_wk (k21 _ .no _ (by decide)) (.cons (.refl _) (.cons (.full _) .nil)) ?_
  simp only [e_Jv]
  simp only [nod_imm, nod_nod, e_gT, cond_false, e_lc0, Nat.zero_add, lv_cons, lv_nil, Nat.reduceAdd, Nat.reduceLeDiff, List.getD_cons_zero, nod_ints, nd_no, true_and, List.getD_cons_succ, e_lA1, dr_0, tk_s, tk_0, nod_agg, List.map_cons, nodL_ints, List.map_nil, cond_true]
  refine call_wk (k21 _ .no _ (by decide)) (.cons (.refl _) (.cons (.full _) .nil)) ?_
  simp only [nod_imm, e_gT, cond_true]
  refine call_wk (k21 _ .no _ (by decide)) (.cons (.refl _) (.cons (.full _) .nil)) ?_
  simp only [nod_imm, e_lc0, Nat.zero_add, lv_cons, lv_nil, Nat.reduceAdd, Nat.reduceLeDiff, List.getD_cons_zero, nod_ints, nd_no, true_and, e_gT, cond_true]
  refine call_wk (k21 _ .no _ (by decide)) (.cons (.refl _) (.cons (.full _) .nil)) ?_
  simp only [nod_imm, e_lc0, Nat.reduceAdd, lv_cons, lv_nil, Nat.zero_add, Nat.reduceLeDiff, List.getD_cons_succ, List.getD_cons_zero, nod_ints, nd_no, true_and, e_gT, cond_true]
  refine call_wk (k21 _ .no _ (by decide)) (.cons (.refl _) (.cons (.full _) .nil)) ?_
  simp only [nod_imm, e_lA1, Nat.zero_add, lv_cons, lv_nil, Nat.reduceAdd, Nat.reduceLeDiff, dr_0, tk_s, tk_0, nod_agg, List.map_cons, nodL_ints, nd_no, List.map_nil, true_and, e_gT, cond_true]
  refine call_wk (c31 [5, 1, 3, 6] [1, 2, 3] [5, 1, 3, 6] [1, 2, 3] _ (by decide) (by decide)) (.cons (.refl _) (.cons (.agg [[I 5, I 1, I 3, I 6], [I 1, I 2, I 3]]) .nil)) ?_
  simp only [decide_true, Bool.and_self, nod_imm, e_gT, cond_true]
  refine call_wk (k21 _ .no _ (by decide)) (.cons (.refl _) (.cons (.full _) .nil)) ?_
  simp only [nod_imm]
  exact end1A (fzI _)
end Go.Proofs.Ytehjfjdknllmhaa
