/- The machinery of the proof, part 6: an abstract machine over list values, proved sound against the model, and the contracts of the functions that the law reaches. No condition. -/
import Derived.Test.YtgodfjbmblghnaaW5
import Derived.ChangeSame
import Derived.WalkKit
import Derived.ProofKit
import Derived.OpenShut
import Derived.ShutString
import Derived.ChangeOld
import Derived.Below
import Derived.Test.YtgodfjbmblghnaaProg

set_option linter.unusedVariables false
set_option linter.unusedSimpArgs false
set_option linter.unnecessarySimpa false
set_option maxRecDepth 20000
set_option maxHeartbeats 2000000
namespace Go.Proofs.Ytgodfjbmblghnaa
open Go Go.Ab Go.Proofs
attribute [local congr] g_bin g_nilS g_nilP g_un g_ext g_bx g_fa g_ld g_st g_ix g_ixA g_slc g_mk g_bs g_bd g_nc g_cv g_len g_lenT g_app g_appB g_cpy g_mm g_call g_callG g_calm g_calmG g_range g_res g_pick g_cond g_loop g_Jv g_eqS g_eqP g_fd g_ixT g_ta g_lkp g_upd g_mkM g_appS g_inv g_callE g_callEG g_invE g_zr g_wr
theorem sp_of {s : Sy} {n : Int} {l : List ByteArray} (hok : okAsk s n 0 0 0 = true) (h1 : (saW s n 0 0 0).all gdW = true) (h2 : (saW s n 0 0 0).map Sd.x = l) : spE s n 0 0 0 = 0 ∧ (spL s n 0 0 0).map tx = l.map tb := by
  unfold spE spL trW
  rw [if_pos hok, if_pos hok, if_pos h1, if_pos h1]
  exact ⟨rfl, by rw [tx_tb, h2]⟩
theorem bs2T (a b : ByteArray) (z : V) (K : V → Prop) : aBS 1 2 z [(0, T a), (1, T b)] K = K (.arr [T a, T b] .full) := by
  have h : ∀ x, (okE 1 (T x)) = True := fun x => eq_true (okE_imm _ rfl)
  simp [aBS, aPs, setP, h]
theorem bs4T (a b c d : ByteArray) (z : V) (K : V → Prop) : aBS 1 4 z [(0, T a), (1, T b), (2, T c), (3, T d)] K = K (.arr [T a, T b, T c, T d] .full) := by
  have h : ∀ x, (okE 1 (T x)) = True := fun x => eq_true (okE_imm _ rfl)
  simp [aBS, aPs, setP, h]
theorem bs5T (a b c d e : ByteArray) (z : V) (K : V → Prop) : aBS 1 5 z [(0, T a), (1, T b), (2, T c), (3, T d), (4, T e)] K = K (.arr [T a, T b, T c, T d, T e] .full) := by
  have h : ∀ x, (okE 1 (T x)) = True := fun x => eq_true (okE_imm _ rfl)
  simp [aBS, aPs, setP, h]
theorem lv50 : lvT Try.prog 10000 50 = some [.str, .int, .int, .int, .int, .int] := by kernel_rfl
theorem gd50 : Try.prog.eqGuardType Try.prog.depth 50 = false := by kernel_rfl
theorem lfS (w : Sd) : lfL [.str, .int, .int, .int, .int, .int] [T w.x, I w.n, I w.t, I w.r, I w.p, I w.d] [T w.x, I w.n, I w.t, I w.r, I w.p, I w.d] = some true := by
  simp [lfL, lfE]
theorem eq50 {K : V → Prop} (w : Sd) (h : K (B true)) : aEqS Try.prog 50 .eql (sdV w) (sdV w) K := ⟨_, _, lv50, lfS w, gd50, h⟩
theorem noVints (l : List Int) : noV (ints l .full) = ints l .no := rfl
theorem c15 (H : Hp) : Ret Try.prog 15 [] H (B true) H := by
  obtain ⟨e1, l1⟩ := sp_of (enAsk (n := 242) (by decide) (by decide)) en242.1 en242.2
  obtain ⟨e2, l2⟩ := sp_of (enAsk (n := 105) (by decide) (by decide)) en105.1 en105.2
  have e3 : spE enS 30 0 0 0 = 0 := by unfold spE; rw [if_pos (enAsk (by decide) (by decide)), if_pos en30.1]
  have l3 : spL enS 30 0 0 0 = [⟨⟨#[116, 104, 114, 101, 101]⟩, 3, 0, 3, 0, 1⟩, ⟨⟨#[116, 121]⟩, 30, 0, 10, 1, 0⟩] := by unfold spL trW; rw [if_pos (enAsk (by decide) (by decide)), if_pos en30.1]; exact en30.2
  have hsc : scE [enS] 99 0 0 0 = 0 := by
    unfold scE
    simp only [List.all_cons, List.all_nil, Bool.and_true]
    rw [enAsk (by decide) (by decide)]; rfl
  have e4 : rdE enS 99 0 0 0 [⟨#[116, 104, 114, 101, 101]⟩, ⟨#[116, 121]⟩] = 0 := by unfold rdE; rw [if_neg (fun h => h hsc), enRd]; rfl
  have l4 : rdR enS 99 0 0 0 [⟨#[116, 104, 114, 101, 101]⟩, ⟨#[116, 121]⟩] = [30] := by unfold rdR; rw [if_neg (fun h => h hsc), enRd]
  have c1 := c16 enS 1000001
  have hc : okSy enS = true ∧ (0 : Int) ≤ 1000001 := ⟨enOk, by decide⟩
  rw [if_pos hc, if_pos hc, enCls] at c1
  refine mk15  rfl (Nat.le_refl _) (.inl rfl) ?_
  simp only [vc15, real]
  repeat (first | (with_reducible first | refine Ju.go ?_ | (refine Hd.go ?_; intro K Q hK hQ; simp only [Try.underlying3, Try.underlying4, Try.underlying5, Try.underlying9, Try.underlying29, Try.underlying57, Try.underlying55, j_one, j_side, j_tl, j_fl, nod_nod, nod_imm, nod_ints, nd_no, nd_own, nd_full, nd_fO, oF_ap, oF_succ, nod_sl, nod_ptr, nod_cptr, nod_fn, nod_junk, nodL_imm, nod_agg, nod_tup, nod2_imm, nod2_agg, cl_imm, cl_ints, cl_agg, e_add, e_sub, e_mul, e_quo, e_rem, e_eql, e_neq, e_lss, e_leq, e_gtr, e_geq, e_beq, e_bne, e_neg, e_not, e_pick, e_cond, e_gT, e_gF, e_len, e_lenA, e_lenS, e_ix, e_ixS, e_ldc, e_ldci, e_fa, rep_cl, rep_I, e_bx, okE_I, okE_B, okE_E8, okE_ints, stV_imm, stV_ints, j_and', j_or', List.getD_cons_zero, List.getD_cons_succ, List.map_cons, List.map_nil, decide_eq_true_eq, Int.toNat_natCast, Nat.mul_one, Nat.zero_add, true_and, and_true, List.length_map, Bool.not_eq_true', decide_eq_false_iff_not, nod_lists, e_lenL, e_ixL, okE_lists, bs1, bs1L, bs2L, e_app, e_appL, e_app0, e_app0L, e_slcLo, e_slcHi, e_slcLH, e_slcHH, e_slcLHH, e_callG, e_callY, e_calmG, e_slS0, e_slSLo, e_slSHi, e_slSLH, e_slSHH, e_slSLHH, e_max2, e_min2, e_max3, e_x20, e_x21, e_x30, e_x31, e_x32, nod2_ints, nod2_lists, rep_fl, bs0, e_nilE, if_true, if_false, cond_true, cond_false, decide_true, decide_false, eq_self, Bool.false_eq_true, false_implies, true_implies, ap_own, ap_full, e_slcLoL, e_slcHiL, e_slcLHL, hp_assoc, hp_cons, hp_nil, hp_len, hp_len_cons, hp_len_nil, lv_cons, lv_nil, vs_0, vs_s, spl_s, spl_0, spl_n, dr_s, dr_0, tk_s, tk_0, e_bxI, e_fac, e_facA, e_ldcA, e_ldcL, e_ldcF, okE_agg, ck_I, ck_B, ck_ints, ck_lists, ck_arr, ck_ptr, ck_cptr, ck_fn, all_c, all_n, stV_agg, stV_lists, stV_arr, stV_ptr, stV_cptr, stV_fn, nodL_ints, nodL_lists, nodL_ptr, nodL_cptr, nodL_fn, nodL_arr0, cl_arr, cl_ptr, cl_cptr, cl_fn, cl_lists, okE_arr, okE_fn, okE_ptr, okE_cptr, e_bd0, e_bd1, e_wr, Nat.reduceAdd, Nat.reduceLeDiff, Nat.reduceEqDiff, Nat.add_zero, Bool.and_self, Bool.true_and, Bool.and_true, e_lc0, e_lA0, e_lM0, e_sc0, e_rc0, e_rA0, e_lI0, e_sI0, e_cI0, e_lc1, e_lA1, e_lM1, e_sc1, e_rc1, e_rA1, e_lI1, e_sI1, e_cI1, e_lc2, e_lA2, e_lM2, e_sc2, e_rc2, e_rA2, e_lI2, e_sI2, e_cI2, e_lc3, e_lA3, e_lM3, e_sc3, e_rc3, e_rA3, e_lI3, e_sI3, e_cI3, e_lc4, e_lA4, e_lM4, e_sc4, e_rc4, e_rA4, e_lI4, e_sI4, e_cI4, e_lc5, e_lA5, e_lM5, e_sc5, e_rc5, e_rA5, e_lI5, e_sI5, e_cI5, own0_arr, own0_ints, own0_lists, own0_imm, own0_ptr, own0_cptr, own0_fn, own0_agg, e_appB, e_appB0, ck_sl, own0_sl, stV_sl, nodL_sl, cl_sl, okE_sl, e_mkM, e_mkI, e_mkIm, e_callB, nod_bfn, nod_ifc, nod_map, nodL_ifc, nodL_bfn, nodL_map, cl_ifc, cl_bfn, ck_ifc, ck_bfn, ck_map, stV_ifc, okE_ifc, okE_bfn, nod_arr, nodL_arr, e_addU, e_mulU, e_shrK, e_shlK, e_andK, e_cv64, e_cv32, e_callEG, e_callEY, e_callEB, e_zr, e_nilSl, e_ncP, e_ncC, e_npnP, e_npeP, e_npnC, e_npeC, e_npnN, e_npeN, e_ixAP, e_ldcP, e_ldcS, e_ldcV, e_ldcT, okE_nilP, ck_nilP, okE_nilI, ck_nilI, okE_str, ck_str, e_tlen, e_tix, e_teq, e_tne, e_tadd, e_tb, e_u8lss, e_u8gtr, noV_full, nod_arr, List.length_map, reduceIte, Int.reduceEq, Int.reduceNeg, ne_eq, not_true_eq_false, not_false_eq_true, Bool.not_true, Bool.not_false, Bool.true_or, Bool.or_true, Bool.false_or, Bool.or_false, Bool.and_true, Bool.and_false, Bool.false_and, Bool.not_not, Bool.or_self, List.length_nil, Int.ofNat_zero, Int.cast_ofNat_Int, Int.natCast_zero, beq_self_eq_true, Bool.true_eq_false]; subst hK hQ) | refine Jr.go ?_) | refine sd ?_)
  refine call_of (c41 _) ?_
  repeat (first | (with_reducible first | refine Ju.go ?_ | (refine Hd.go ?_; intro K Q hK hQ; simp only [nod_agg, List.map_cons, nodL_imm, nodL_arr, nd_no, List.map_nil, e_bxI, okE_agg, lv_cons, List.length_nil, Nat.zero_add, Nat.reduceAdd, all_c, ck_I, ck_arr, all_n, Bool.and_self, and_true, true_and, nod_cptr, e_ldcA, e_bd1, okE_I, Nat.reduceLeDiff, cl_imm, spl_0, spl_n, e_bd0]; subst hK hQ) | refine Jr.go ?_) | refine sd ?_)
  refine call_of (c20 enS 242 0 0 0 _ enSm) ?_
  rw [e1, l1]
  repeat (first | (with_reducible first | refine Ju.go ?_ | (refine Hd.go ?_; intro K Q hK hQ; simp only [List.map_cons, List.map_nil, nod_tup, nod2_arr, nd_no, nod2_imm, e_x20, e_x21, List.getD_cons_zero, nod_cptr, e_ldcA, lv_cons, List.length_nil, Nat.zero_add, Nat.reduceAdd, true_and, e_bd1, okE_I, Nat.reduceLeDiff, cl_imm, spl_0, spl_n, e_bd0, nod_agg, nodL_imm, nodL_arr]; subst hK hQ) | refine Jr.go ?_) | refine sd ?_)
  refine call_of (c20 enS 105 0 0 0 _ enSm) ?_
  rw [e2, l2]
  repeat (first | (with_reducible first | refine Ju.go ?_ | (refine Hd.go ?_; intro K Q hK hQ; simp only [List.map_cons, List.map_nil, nod_tup, nod2_arr, nd_no, nod2_imm, e_x20, e_x21, List.getD_cons_zero, nod_cptr, e_ldcA, lv_cons, List.length_nil, Nat.zero_add, Nat.reduceAdd, true_and, nod_agg, nodL_imm, nodL_arr]; subst hK hQ) | refine Jr.go ?_) | refine sd ?_)
  refine call_of (c1 _ enSm) ?_
  repeat (first | (with_reducible first | refine Ju.go ?_ | (refine Hd.go ?_; intro K Q hK hQ; simp only [nod_tup, List.map_cons, nod2_imm, List.map_nil, e_x20, e_x21, List.getD_cons_zero, List.getD_cons_succ, nod_cptr, e_ldcA, lv_cons, List.length_nil, Nat.zero_add, Nat.reduceAdd, true_and, e_bd1, okE_I, Nat.reduceLeDiff, cl_imm, spl_0, spl_n, e_bd0, bs2T, nod_agg, nodL_imm, nodL_arr, nd_no, noV_full, nod_arr]; subst hK hQ) | refine Jr.go ?_) | refine sd ?_)
  refine call_of (c27 enS 99 0 0 0 [⟨#[116, 104, 114, 101, 101]⟩, ⟨#[116, 121]⟩] _ enSm) ?_
  rw [e4, l4]
  repeat (first | (with_reducible first | refine Ju.go ?_ | (refine Hd.go ?_; intro K Q hK hQ; simp only [nod_tup, List.map_cons, nod2_ints, nd_no, nod2_imm, List.map_nil, e_x20, e_x21, List.getD_cons_zero, nod_cptr, e_ldcA, lv_cons, List.length_nil, Nat.zero_add, Nat.reduceAdd, true_and, e_bd1, okE_I, Nat.reduceLeDiff, cl_imm, spl_0, spl_n, e_bd0, nod_agg, nodL_imm, nodL_arr]; subst hK hQ) | refine Jr.go ?_) | refine sd ?_)
  refine call_of (c21 enS 30 0 0 0 _ enSm) ?_
  rw [e3, l3]
  repeat (first | (with_reducible first | refine Ju.go ?_ | (refine Hd.go ?_; intro K Q hK hQ; simp only [nod_tup, List.map_cons, nod2_arr, List.map_nil, nd_no, nod2_imm, e_x20, e_x21, List.getD_cons_succ, List.getD_cons_zero, nod_imm, Try.underlying29, e_neq, decide_true, Bool.not_true, e_gF, cond_false, j_one, nod_arr, Try.underlying3, e_lenA, lv_cons, List.length_nil, Nat.zero_add, Nat.reduceAdd, Int.cast_ofNat_Int, e_cond, Bool.false_eq_true, if_false, bs5T, noV_full]; subst hK hQ) | refine Jr.go ?_) | refine sd ?_)
  refine call_of (c25 [⟨#[116, 119, 111]⟩, ⟨#[104, 117, 110, 100, 114, 101, 100, 115]⟩, ⟨#[102, 111, 117, 114]⟩, ⟨#[116, 121]⟩, ⟨#[116, 119, 111]⟩] [⟨#[116, 119, 111]⟩, ⟨#[104, 117, 110, 100, 114, 101, 100, 115]⟩, ⟨#[102, 111, 117, 114]⟩, ⟨#[116, 121]⟩, ⟨#[116, 119, 111]⟩] _ (by decide)) ?_
  repeat (first | (with_reducible first | refine Ju.go ?_ | (refine Hd.go ?_; intro K Q hK hQ; simp only [decide_true, nod_imm, List.getD_cons_succ, List.getD_cons_zero, nod_arr, nd_no, bs4T, noV_full, e_gT, cond_true]; subst hK hQ) | refine Jr.go ?_) | refine sd ?_)
  refine call_of (c25 [⟨#[111, 110, 101]⟩, ⟨#[104, 117, 110, 100, 114, 101, 100]⟩, ⟨#[97, 110, 100]⟩, ⟨#[102, 105, 118, 101]⟩] [⟨#[111, 110, 101]⟩, ⟨#[104, 117, 110, 100, 114, 101, 100]⟩, ⟨#[97, 110, 100]⟩, ⟨#[102, 105, 118, 101]⟩] _ (by decide)) ?_
  repeat (first | (with_reducible first | refine Ju.go ?_ | (refine Hd.go ?_; intro K Q hK hQ; simp only [decide_true, nod_imm, List.getD_cons_succ, List.getD_cons_zero, Try.underlying3, e_eql, e_gT, cond_true, j_one, nod_ints, nd_no, bs1, noVints]; subst hK hQ) | refine Jr.go ?_) | refine sd ?_)
  refine call_of (c29 [30] [30] _ (by decide)) ?_
  have ix0 : ∀ K, aIx 6 (.arr [sdV ⟨⟨#[116, 104, 114, 101, 101]⟩, 3, 0, 3, 0, 1⟩, sdV ⟨⟨#[116, 121]⟩, 30, 0, 10, 1, 0⟩] .no) (I 0) K = K (.cptr (sdV ⟨⟨#[116, 104, 114, 101, 101]⟩, 3, 0, 3, 0, 1⟩)) := fun K => (ix_sd [⟨⟨#[116, 104, 114, 101, 101]⟩, 3, 0, 3, 0, 1⟩, ⟨⟨#[116, 121]⟩, 30, 0, 10, 1, 0⟩] .no 0).trans (propext ⟨fun h => h.2.2, fun h => ⟨by decide, by decide, h⟩⟩)
  have ix1 : ∀ K, aIx 6 (.arr [sdV ⟨⟨#[116, 104, 114, 101, 101]⟩, 3, 0, 3, 0, 1⟩, sdV ⟨⟨#[116, 121]⟩, 30, 0, 10, 1, 0⟩] .no) (I 1) K = K (.cptr (sdV ⟨⟨#[116, 121]⟩, 30, 0, 10, 1, 0⟩)) := fun K => (ix_sd [⟨⟨#[116, 104, 114, 101, 101]⟩, 3, 0, 3, 0, 1⟩, ⟨⟨#[116, 121]⟩, 30, 0, 10, 1, 0⟩] .no 1).trans (propext ⟨fun h => h.2.2, fun h => ⟨by decide, by decide, h⟩⟩)
  repeat (first | (with_reducible first | refine Ju.go ?_ | (refine Hd.go ?_; intro K Q hK hQ; simp only [decide_true, nod_imm, List.getD_cons_succ, List.getD_cons_zero, nod_arr, nd_no, e_bd1, okE_str, Nat.zero_add, lv_cons, List.length_nil, Nat.reduceAdd, Nat.reduceLeDiff, cl_imm, spl_0, spl_n, okE_I, spl_s, e_bd0, nod_agg, List.map_cons, nodL_imm, List.map_nil, true_and, ix0, nod_cptr, e_ldcA, e_gT, cond_true]; subst hK hQ) | refine Jr.go ?_) | refine sd ?_)
  refine eq50 ⟨⟨#[116, 104, 114, 101, 101]⟩, 3, 0, 3, 0, 1⟩ ?_
  repeat (first | (with_reducible first | refine Ju.go ?_ | (refine Hd.go ?_; intro K Q hK hQ; simp only [nod_imm, List.getD_cons_succ, List.getD_cons_zero, nod_arr, nd_no, e_bd1, okE_str, Nat.zero_add, lv_cons, List.length_nil, Nat.reduceAdd, Nat.reduceLeDiff, cl_imm, spl_0, spl_n, okE_I, spl_s, e_bd0, nod_agg, List.map_cons, nodL_imm, List.map_nil, true_and, ix1, nod_cptr, e_ldcA, e_gT, cond_true]; subst hK hQ) | refine Jr.go ?_) | refine sd ?_)
  refine eq50 ⟨⟨#[116, 121]⟩, 30, 0, 10, 1, 0⟩ ?_
  repeat (first | (with_reducible first | refine Ju.go ?_ | (refine Hd.go ?_; intro K Q hK hQ; simp only [nod_imm]; subst hK hQ) | refine Jr.go ?_) | refine sd ?_)
  exact end1 (fzI _)
end Go.Proofs.Ytgodfjbmblghnaa


set_option linter.unusedVariables false
set_option linter.unusedSimpArgs false
set_option linter.unnecessarySimpa false
set_option maxRecDepth 20000
set_option maxHeartbeats 2000000
namespace Go.Proofs.Ytgodfjbmblghnaa
open Go Go.Ab Go.Proofs
attribute [local congr] g_bin g_nilS g_nilP g_un g_ext g_bx g_fa g_ld g_st g_ix g_ixA g_slc g_mk g_bs g_bd g_nc g_cv g_len g_lenT g_app g_appB g_cpy g_mm g_call g_callG g_calm g_calmG g_range g_res g_pick g_cond g_loop g_Jv g_eqS g_eqP g_fd g_ixT g_ta g_lkp g_upd g_mkM g_appS g_inv g_callE g_callEG g_invE g_zr g_wr
theorem c14 (s : Sy) (H : Hp) (sm : Sm s) : RetE Try.prog 14 [syV s] H (fun v H' => H' = H ∧ ∃ b, v = B b) := by
  have b1 := sm.te
  have b2 := sm.pl
  have b3 := sm.se
  refine mkE14 _ ?_
  simp only [vc14, real]
  repeat (first | (with_reducible first | refine Ju.go ?_ | (refine Hd.go ?_; intro K Q hK hQ; simp only [nod_agg, List.map_cons, nodL_imm, nodL_arr, nd_no, List.map_nil, e_bxI, okE_agg, lv_cons, List.length_nil, Nat.zero_add, Nat.reduceAdd, all_c, ck_I, ck_arr, all_n, Bool.and_self, and_true, true_and, nod_cptr, e_fac, Nat.reduceLeDiff, List.getD_cons_succ, List.getD_cons_zero, e_ldcV, nod_arr, e_lenA, List.length_map, nod_imm, Try.underlying3, e_gtr, e_gF, j_or', j_one, e_cond]; subst hK hQ) | refine Jr.go ?_) | refine sd ?_)
  by_cases hg : (decide (60 < (s.te.length : Int)) || decide (50 < (s.pl.length : Int)) || decide (10 < (s.se.length : Int))) = true
  · repeat (first | (with_reducible first | refine Ju.go ?_ | (refine Hd.go ?_; intro K Q hK hQ; simp only [hg, if_true]; subst hK hQ) | refine Jr.go ?_) | refine sd ?_)
    exact ⟨rfl, false, rfl⟩
  · repeat (first | (with_reducible first | refine Ju.go ?_ | (refine Hd.go ?_; intro K Q hK hQ; simp only [hg, Bool.false_eq_true, if_false]; subst hK hQ) | refine Jr.go ?_) | refine sd ?_)
    refine loop_of (fun z : Nat × Int => z.1 ≤ s.te.length) (fun z => [.cptr (syV s), I z.2, I z.1]) (fun _ => H) (fun z => s.te.length - z.1) (0, 0) (Nat.zero_le _) rfl rfl ?_
    intro ⟨i, n⟩ hi
    dsimp only at hi ⊢
    repeat (first | (with_reducible first | refine Ju.go ?_ | (refine Hd.go ?_; intro K Q hK hQ; simp only [List.getD_cons_zero, nod_cptr, e_fac, Nat.reduceAdd, lv_cons, List.length_nil, Nat.zero_add, Nat.reduceLeDiff, List.getD_cons_succ, true_and, e_ldcV, nod_arr, nd_no, e_lenA, List.length_map, nod_imm, Try.underlying3, e_lss, e_cond, decide_eq_true_eq]; subst hK hQ) | refine Jr.go ?_) | refine sd ?_)
    by_cases hlt : i < s.te.length
    · have d : (i : Int) < s.te.length := by omega
      have bf := (sm.fo _ (getD_memA s.te default hlt)).1
      repeat (first | (with_reducible first | refine Ju.go ?_ | (refine Hd.go ?_; intro K Q hK hQ; simp only [d, if_true, List.getD_cons_zero, nod_cptr, e_fac, Nat.reduceAdd, lv_cons, List.length_nil, Nat.zero_add, Nat.reduceLeDiff, List.getD_cons_succ, true_and, e_ldcV, nod_arr, nd_no, nod_imm, ix_te, Int.toNat_natCast, e_lenA, List.length_map, e_wr]; subst hK hQ) | refine Jr.go ?_) | refine sd ?_)
      generalize ht : s.te.getD i default = t at *
      generalize IntKind.i64.wrap (n + t.f.length) = n1
      refine loop_of (fun k : Nat => k ≤ t.f.length) (fun k => [.cptr (syV s), I n1, I i, I k]) (fun _ => H) (fun k => t.f.length - k) 0 (Nat.zero_le _) rfl rfl ?_
      intro k hk
      repeat (first | (with_reducible first | refine Ju.go ?_ | (refine Hd.go ?_; intro K Q hK hQ; simp only [List.getD_cons_zero, nod_cptr, e_fac, Nat.reduceAdd, lv_cons, List.length_nil, Nat.zero_add, Nat.reduceLeDiff, List.getD_cons_succ, true_and, e_ldcV, nod_arr, nd_no, nod_imm, ix_te, d, Int.toNat_natCast, ht, e_lenA, List.length_map, Try.underlying3, e_lss, e_cond, decide_eq_true_eq]; subst hK hQ) | refine Jr.go ?_) | refine sd ?_)
      by_cases hkt : k < t.f.length
      · have dk : (k : Int) < t.f.length := by omega
        repeat (first | (with_reducible first | refine Ju.go ?_ | (refine Hd.go ?_; intro K Q hK hQ; simp only [dk, if_true, List.getD_cons_zero, nod_cptr, e_fac, Nat.reduceAdd, lv_cons, List.length_nil, Nat.zero_add, Nat.reduceLeDiff, List.getD_cons_succ, true_and, e_ldcV, nod_arr, nd_no, nod_imm, ix_te, d, Int.toNat_natCast, ht, ix_fo, e_ldc, e_tlen, Try.underlying3, e_gtr, e_cond, decide_eq_true_eq]; subst hK hQ) | refine Jr.go ?_) | refine sd ?_)
        generalize t.f.getD k default = f at *
        by_cases h60 : 60 < (f.t.size : Int)
        · repeat (first | (with_reducible first | refine Ju.go ?_ | (refine Hd.go ?_; intro K Q hK hQ; simp only [h60, if_true]; subst hK hQ) | refine Jr.go ?_) | refine sd ?_)
          exact ⟨rfl, false, rfl⟩
        · repeat (first | (with_reducible first | refine Ju.go ?_ | (refine Hd.go ?_; intro K Q hK hQ; simp only [h60, if_false, decide_false, List.getD_cons_succ, List.getD_cons_zero, nod_imm, Try.underlying3, e_add]; subst hK hQ) | refine Jr.go ?_) | refine sd ?_)
          exact ⟨k + 1, by omega, rfl, rfl, by omega⟩
      · have dk : ¬ (k : Int) < t.f.length := by omega
        repeat (first | (with_reducible first | refine Ju.go ?_ | (refine Hd.go ?_; intro K Q hK hQ; simp only [dk, if_false, List.getD_cons_succ, List.getD_cons_zero, nod_imm, Try.underlying3, e_add]; subst hK hQ) | refine Jr.go ?_) | refine sd ?_)
        exact ⟨(i + 1, n1), by dsimp only; omega, rfl, rfl, by dsimp only; omega⟩
    · have d : ¬ (i : Int) < s.te.length := by omega
      repeat (first | (with_reducible first | refine Ju.go ?_ | (refine Hd.go ?_; intro K Q hK hQ; simp only [d, if_false]; subst hK hQ) | refine Jr.go ?_) | refine sd ?_)
      refine loop_of (fun z : Nat × Int => z.1 ≤ s.se.length) (fun z => [.cptr (syV s), I z.2, I z.1]) (fun _ => H) (fun z => s.se.length - z.1) (0, n) (Nat.zero_le _) rfl rfl ?_
      intro ⟨i, m⟩ hi2
      dsimp only at hi2 ⊢
      repeat (first | (with_reducible first | refine Ju.go ?_ | (refine Hd.go ?_; intro K Q hK hQ; simp only [List.getD_cons_zero, nod_cptr, e_fac, Nat.reduceAdd, lv_cons, List.length_nil, Nat.zero_add, Nat.reduceLeDiff, List.getD_cons_succ, true_and, e_ldcV, nod_arr, nd_no, e_lenA, List.length_map, nod_imm, Try.underlying3, e_lss, e_cond, decide_eq_true_eq]; subst hK hQ) | refine Jr.go ?_) | refine sd ?_)
      by_cases hlt2 : i < s.se.length
      · have d2 : (i : Int) < s.se.length := by omega
        have bl := (sm.nu _ (getD_memA s.se [] hlt2)).1
        repeat (first | (with_reducible first | refine Ju.go ?_ | (refine Hd.go ?_; intro K Q hK hQ; simp only [d2, if_true, List.getD_cons_zero, nod_cptr, e_fac, Nat.reduceAdd, lv_cons, List.length_nil, Nat.zero_add, Nat.reduceLeDiff, List.getD_cons_succ, true_and, e_ldcV, nod_arr, nd_no, nod_imm, ix_se, Int.toNat_natCast, e_lenA, List.length_map, e_wr]; subst hK hQ) | refine Jr.go ?_) | refine sd ?_)
        generalize hl : s.se.getD i [] = l at *
        generalize IntKind.i64.wrap (m + l.length) = m1
        refine loop_of (fun z : Nat × Int => z.1 ≤ l.length) (fun z => [.cptr (syV s), I z.2, I i, I z.1]) (fun _ => H) (fun z => l.length - z.1) (0, m1) (Nat.zero_le _) rfl rfl ?_
        intro ⟨k, q⟩ hk
        dsimp only at hk ⊢
        repeat (first | (with_reducible first | refine Ju.go ?_ | (refine Hd.go ?_; intro K Q hK hQ; simp only [List.getD_cons_zero, nod_cptr, e_fac, Nat.reduceAdd, lv_cons, List.length_nil, Nat.zero_add, Nat.reduceLeDiff, List.getD_cons_succ, true_and, e_ldcV, nod_arr, nd_no, nod_imm, ix_se, d2, Int.toNat_natCast, hl, e_lenA, List.length_map, Try.underlying3, e_lss, e_cond, decide_eq_true_eq]; subst hK hQ) | refine Jr.go ?_) | refine sd ?_)
        by_cases hkt : k < l.length
        · have dk : (k : Int) < l.length := by omega
          repeat (first | (with_reducible first | refine Ju.go ?_ | (refine Hd.go ?_; intro K Q hK hQ; simp only [dk, if_true, List.getD_cons_zero, nod_cptr, e_fac, Nat.reduceAdd, lv_cons, List.length_nil, Nat.zero_add, Nat.reduceLeDiff, List.getD_cons_succ, true_and, e_ldcV, nod_arr, nd_no, nod_imm, ix_se, d2, Int.toNat_natCast, hl, ix_nu, e_lenA, List.length_map, e_wr, Try.underlying3, e_add]; subst hK hQ) | refine Jr.go ?_) | refine sd ?_)
          exact ⟨(k + 1, _), by dsimp only; omega, rfl, rfl, by dsimp only; omega⟩
        · have dk : ¬ (k : Int) < l.length := by omega
          repeat (first | (with_reducible first | refine Ju.go ?_ | (refine Hd.go ?_; intro K Q hK hQ; simp only [dk, if_false, List.getD_cons_succ, List.getD_cons_zero, nod_imm, Try.underlying3, e_add]; subst hK hQ) | refine Jr.go ?_) | refine sd ?_)
          exact ⟨(i + 1, q), by dsimp only; omega, rfl, rfl, by dsimp only; omega⟩
      · have d2 : ¬ (i : Int) < s.se.length := by omega
        repeat (first | (with_reducible first | refine Ju.go ?_ | (refine Hd.go ?_; intro K Q hK hQ; simp only [d2, if_false, List.getD_cons_succ, List.getD_cons_zero, nod_imm, Try.underlying3, e_leq]; subst hK hQ) | refine Jr.go ?_) | refine sd ?_)
        exact ⟨rfl, _, rfl⟩
end Go.Proofs.Ytgodfjbmblghnaa


set_option linter.unusedVariables false
set_option linter.unusedSimpArgs false
set_option linter.unnecessarySimpa false
set_option maxRecDepth 20000
set_option maxHeartbeats 2000000
namespace Go.Proofs.Ytgodfjbmblghnaa
open Go Go.Ab Go.Proofs
attribute [local congr] g_bin g_nilS g_nilP g_un g_ext g_bx g_fa g_ld g_st g_ix g_ixA g_slc g_mk g_bs g_bd g_nc g_cv g_len g_lenT g_app g_appB g_cpy g_mm g_call g_callG g_calm g_calmG g_range g_res g_pick g_cond g_loop g_Jv g_eqS g_eqP g_fd g_ixT g_ta g_lkp g_upd g_mkM g_appS g_inv g_callE g_callEG g_invE g_zr g_wr
theorem argF_nd {args : List V} (hn : ∀ a, a ∈ args → a.Nd) (i : Nat) : (argF args i).Nd := by
  unfold argF
  rw [List.getD_eq_getElem?_getD]
  cases h : args[i]? with
  | none => rfl
  | some v => exact hn v (List.mem_of_getElem? h)
def sg0 (w : World) : Sg := ⟨0, fun _ => 0, fun rb => (cellsAt w rb).size⟩
theorem bridge {P : Program} {f : Nat} {args : List V} {ra : Array Value} {w : World} (h : Ret P f args [] (B true) []) (hl : args.length = ra.size) (hn : ∀ a, a ∈ args → a.Nd)
    (hr : ∀ i, Rel (sg0 w) w (argF args i) (ra.getD i undef)) : Calls P f ra w fun e w' => e = .returned (.bool true) ∧ Go.RowKit.Below w.heap.size w w' := by
  have no : ∀ (p : Go.Ab.Pl) (x : Value) (rb : Nat), ¬ OwnB (Go.Ab.pv (argF args) [] p) x rb := by
    intro p x rb ho
    cases p with
    | s i j => exact not_own_Nd (argF_nd hn i) ho
    | h b j => exact not_own_junk ho
  have st : St (sg0 w) w (argF args) ra [] :=
    { frame := hr
      hn := rfl
      heap := fun b blk hb => by simp at hb
      inj := fun b b' blk blk' hb => by simp at hb
      lt := fun b hb => absurd hb (Nat.not_lt_zero _)
      tip0 := fun b blk hb => by simp at hb
      tipz := fun rb hb => by
        show (cellsAt w rb).size = 0
        have : w.heap[rb]? = none := Array.getElem?_eq_none hb
        unfold cellsAt
        rw [this]
        rfl
      own1 := fun p rb ho => absurd ho (no _ _ _)
      own2 := fun p q rb ho => absurd ho (no _ _ _) }
  refine (h.2 (sg0 w) w ra hl st hn).mono fun e w' he => ?_
  obtain ⟨x, σ', rfl, s2, t⟩ := he
  refine ⟨?_, t.os, t.tape, t.output, t.size, fun k hk => (t.keep k hk ?_ ?_).1⟩
  · have := s2.frame 0
    have h2 : Rel σ' w' (B true) x := this
    cases h2
    rfl
  · rintro ⟨b, hb, -⟩
    exact Nat.not_lt_zero _ hb
  · rintro ⟨p, ho⟩
    exact no _ _ _ ho
theorem cells_lt {w : World} {rb off : Nat} {y : Value} (h : w.cell? ⟨rb, off, none⟩ = some y) : off < (sg0 w).tip rb := by
  show off < (cellsAt w rb).size
  unfold World.cell? at h
  unfold cellsAt
  split at h
  · rename_i c e fz hc
    rw [hc]
    simp only [Option.isSome_none, Bool.false_eq_true, if_false] at h
    exact (Array.getElem?_eq_some_iff.1 h).1
  · cases h
open Go.ChangeShapes Go.WideShapes Go.ChangeAt Go.RowKit
theorem in_int {H : Type} {enc : TypeId × Value → H} {P : Program} {W : World} {base : Nat} {t : TypeId} {v : Value} {d : DataW H} {p : List MemPlace} (ht : P.underlying t = some (.int .i64))
    (hv : Value.okWide P W .any base t v) (hA : DataW.Trod enc P W 0 (fun _ => true) true t v d p) : ∃ n : Int, Rel (sg0 W) W (I n) v ∧ (Lit.int .i64 n).wf = true := by
  obtain ⟨n, rfl, rfl, rfl, wf⟩ := open_int ht hv hA
  exact ⟨n, .imm _, wf⟩
def CR (W : World) (us : List V) (cs : List Value) : Prop := us.length = cs.length ∧ ∀ (i : Nat) (u : V) (c : Value), us[i]? = some u → cs[i]? = some c → Rel (sg0 W) W u c ∧ c.oneCell' = true
def Opens {H α : Type} (enc : TypeId × Value → H) (W : World) (t : TypeId) (f : α → V) : Prop := ∀ n cs y, DataW.trod enc Try.prog W 0 (fun _ => true) true n t cs = some y → ∃ x : α, CR W (f x).cl cs
theorem cr1 {W : World} {u : V} {c : Value} (h : Rel (sg0 W) W u c) (o : c.oneCell' = true) : CR W [u] [c] := by
  refine ⟨rfl, fun i u' c' hu hc => ?_⟩
  match i with
  | 0 => cases hu; cases hc; exact ⟨h, o⟩
  | i + 1 => simp at hu
theorem cr1' {W : World} {u : V} {c : Value} (h : CR W [u] [c]) : Rel (sg0 W) W u c ∧ c.oneCell' = true := h.2 0 u c rfl rfl
theorem cr_nil {W : World} : CR W [] [] := ⟨rfl, fun i u c h => by simp at h⟩
theorem cr_cons {W : World} {u : V} {us : List V} {c : Value} {cs : List Value} (h : CR W [u] [c]) (k : CR W us cs) : CR W (u :: us) (c :: cs) := by
  refine ⟨by simp [k.1], fun i u' c' hu hc => ?_⟩
  match i with
  | 0 => simp at hu hc; subst hu hc; exact cr1' h
  | i + 1 => simp at hu hc; exact k.2 i u' c' hu hc
theorem opens_int {H : Type} {enc : TypeId × Value → H} {W : World} {t : TypeId} (ht : Try.prog.underlying t = some (.int .i64)) : Opens enc W t I := fun n cs y h => by
  obtain ⟨m, rfl, -, -⟩ := DataW.trod_int ht h
  exact ⟨m, cr1 (.imm _) rfl⟩
theorem cell_spot {w : World} {a : Addr} {y : Value} (h : w.cell? a = some y) : a.spot = none := by
  unfold World.cell? at h
  split at h
  · cases hs : a.spot with
    | none => rfl
    | some k => rw [hs] at h; simp at h
  · cases h
theorem add_none (b off k : Nat) : (⟨b, off, none⟩ : Addr).add k = ⟨b, off + k, none⟩ := by unfold Addr.add; split <;> simp_all
theorem flat_at {α : Type} {f : α → V} {s : Nat} (hs : 0 < s) (hf : ∀ x, (f x).cl.length = s) : ∀ (l : List α) (j : Nat) (c : V), ((l.map f).flatMap V.cl)[j]? = some c → ∃ x, l[j / s]? = some x ∧ (f x).cl[j % s]? = some c
  | [], j, c, h => by simp at h
  | x :: l, j, c, h => by
    rw [List.map_cons, List.flatMap_cons] at h
    by_cases hj : j < s
    · rw [List.getElem?_append_left (by rw [hf]; exact hj)] at h
      exact ⟨x, by rw [Nat.div_eq_of_lt hj]; rfl, by rw [Nat.mod_eq_of_lt hj]; exact h⟩
    · rw [List.getElem?_append_right (by rw [hf]; omega), hf] at h
      obtain ⟨y, h1, h2⟩ := flat_at hs hf l (j - s) c h
      have hj : s ≤ j := by omega
      refine ⟨y, ?_, by rw [Nat.mod_eq_sub_mod hj]; exact h2⟩
      rw [Nat.div_eq_sub_div hs hj]; exact h1
theorem fields {H : Type} {enc : TypeId × Value → H} {W : World} {t : TypeId} {fs : Array Field} {n : Nat} {cs : List Value} {y : DataW H × List MemPlace} (ht : Try.prog.underlying t = some (.struct fs)) (h : DataW.trod enc Try.prog W 0 (fun _ => true) true n t cs = some y) :
    cs.length = Try.prog.cellsOf t ∧ ∀ (i : Nat) (f : Field), fs[i]? = some f → ∃ m z, DataW.trod enc Try.prog W 0 (fun _ => true) true m f.type ((cs.drop f.offset).take (Try.prog.cellsOf f.type)) = some z := by
  obtain ⟨xs, m, -, -, hl, hlen, hf⟩ := DataW.trod_struct ht h
  refine ⟨hl, fun i f hi => ?_⟩
  have h1 := hf i f hi
  have : i < xs.length := by rw [hlen]; exact (Array.getElem?_eq_some_iff.1 hi).1
  exact ⟨m, _, h1.trans (List.getElem?_eq_getElem this)⟩
theorem k3 : Try.prog.cellsOf 3 = 1 := by kernel_rfl
theorem one {H α : Type} {enc : TypeId × Value → H} {W : World} {t : TypeId} {f : α → V} (ho : Opens enc W t f) {c : Value} (hc : ∀ x, (f x).cl = [f x]) (h : ∃ m z, DataW.trod enc Try.prog W 0 (fun _ => true) true m t [c] = some z) : ∃ x, CR W [f x] [c] := by
  obtain ⟨m, z, h⟩ := h
  obtain ⟨x, hx⟩ := ho _ _ _ h
  rw [hc] at hx
  exact ⟨x, hx⟩
theorem fld1 {H : Type} {enc : TypeId × Value → H} {W : World} {t o : Nat} {cs : List Value} {c : Value} (h : ∃ m z, DataW.trod enc Try.prog W 0 (fun _ => true) true m t ((cs.drop o).take (Try.prog.cellsOf t)) = some z) (k : Try.prog.cellsOf t = 1) (hc : cs[o]? = some c) : ∃ m z, DataW.trod enc Try.prog W 0 (fun _ => true) true m t [c] = some z := by
  obtain ⟨hl, rfl⟩ := List.getElem?_eq_some_iff.1 hc
  rw [k, List.drop_eq_getElem_cons hl] at h
  exact h
theorem in_agg {H α : Type} {enc : TypeId × Value → H} {W : World} {base : Nat} {t : TypeId} {v : Value} {d : DataW H} {p : List MemPlace} {fs : Array Field} {g : α → List V} (ht : Try.prog.underlying t = some (.struct fs)) (ho : Opens enc W t (fun x : α => .agg (g x))) (hcl : ∀ x, (V.agg (g x)).cl = g x)
    (hv : Value.okWide Try.prog W .any base t v) (hA : DataW.Trod enc Try.prog W 0 (fun _ => true) true t v d p) : ∃ x : α, Rel (sg0 W) W (.agg (g x)) v := by
  unfold Value.okWide at hv
  rw [ht] at hv
  obtain ⟨cs, rfl, -⟩ := hv
  obtain ⟨fuel, hf⟩ := hA
  obtain ⟨x, hx⟩ := ho _ _ _ hf
  rw [hcl] at hx
  have hs : (Value.agg cs).cells.toList = cs.toList := rfl
  rw [hs] at hx
  refine ⟨x, .agg _ _ hx.1 (fun i y hy => ?_) fun i c hc => ?_⟩
  · have hi : i < (g x).length := by rw [hx.1]; simpa using (Array.getElem?_eq_some_iff.1 hy).1
    exact (hx.2 i _ y (List.getElem?_eq_getElem hi) (by simpa using hy)).2
  · have hi : i < cs.size := by rw [← Array.length_toList, ← hx.1]; exact (List.getElem?_eq_some_iff.1 hc).1
    have := (hx.2 i c cs[i] hc (by simp [hi])).1
    simpa [Array.getD, hi] using this
end Go.Proofs.Ytgodfjbmblghnaa


set_option linter.unusedVariables false
set_option linter.unusedSimpArgs false
set_option linter.unnecessarySimpa false
set_option maxRecDepth 20000
set_option maxHeartbeats 2000000
namespace Go.Proofs.Ytgodfjbmblghnaa
open Go Go.Ab Go.Proofs
attribute [local congr] g_bin g_nilS g_nilP g_un g_ext g_bx g_fa g_ld g_st g_ix g_ixA g_slc g_mk g_bs g_bd g_nc g_cv g_len g_lenT g_app g_appB g_cpy g_mm g_call g_callG g_calm g_calmG g_range g_res g_pick g_cond g_loop g_Jv g_eqS g_eqP g_fd g_ixT g_ta g_lkp g_upd g_mkM g_appS g_inv g_callE g_callEG g_invE g_zr g_wr
open Go.ChangeShapes Go.WideShapes Go.ChangeAt Go.RowKit
theorem opens_sliceB {H α : Type} {enc : TypeId × Value → H} {W : World} {t e : TypeId} {f : α → V} {s : Nat} (ht : Try.prog.underlying t = some (.slice e)) (hs : 0 < s) (hc : Try.prog.cellsOf e = s) (hf : ∀ x, (f x).cl.length = s ∧ (f x).Nd) (he : Opens enc W e f) :
    Opens enc W t (fun l : {l : List α // l.length ≤ maxLen} => .arr (l.1.map f) .no) := fun n cs y h => by
  rcases DataW.trod_slice ht h with ⟨rfl, -⟩ | ⟨a, len, cap, elems, rest, m, -, rfl, -, hb, hl, hm, hlen, hel, hre, -⟩
  · exact ⟨⟨[], Nat.zero_le _⟩, cr1 (.arr0 _ _ _ (fun h => by cases h) ⟨fun ad h => (by cases h), fun _ => rfl⟩) rfl⟩
  · rw [hc] at hel hre
    have go : ∀ (k : Nat) (z : DataW H × List MemPlace), (W.cells? 0 (a.add (k * s)) s).bind (DataW.trod enc Try.prog W 0 (fun _ => true) true m e) = some z → ∃ (x : α) (C : List Value), (∀ j, j < s → W.cell? ((a.add (k * s)).add j) = C[j]?) ∧ C.length = s ∧ CR W (f x).cl C := fun k z hz => by
      obtain ⟨C, h1, h2⟩ := Option.bind_eq_some_iff.1 hz
      obtain ⟨-, h3, h4⟩ := World.cells?_some h1
      obtain ⟨x, hx⟩ := he _ _ _ h2
      exact ⟨x, C, h4, h3, hx⟩
    have spot : cap = 0 ∨ a.spot = none := by
      by_cases h0 : cap = 0
      · exact .inl h0
      · refine .inr ?_
        have pick : ∃ z, (W.cells? 0 (a.add (0 * s)) s).bind (DataW.trod enc Try.prog W 0 (fun _ => true) true m e) = some z := by
          by_cases hl0 : 0 < len
          · exact ⟨_, (hel 0 hl0).trans (List.getElem?_eq_getElem (by omega))⟩
          · obtain rfl : len = 0 := by omega
            have := hre rfl
            exact ⟨_, (this.2 0 (by omega)).trans (List.getElem?_eq_getElem (by omega))⟩
        obtain ⟨z, hz⟩ := pick
        obtain ⟨x, C, h1, h2, -⟩ := go 0 z hz
        have h3 := h1 0 hs
        rw [List.getElem?_eq_getElem (by omega)] at h3
        rw [show (a.add (0 * s)).add 0 = a by simp [Addr.add]] at h3
        exact cell_spot h3
    have key : ∀ k, k ≤ len → ∃ l : List α, l.length = k ∧ ∃ C : Nat → List Value, ∀ i, i < k → (C i).length = s ∧ (∀ j, j < s → W.cell? ((a.add (i * s)).add j) = (C i)[j]?) ∧ ∀ x, l[i]? = some x → CR W (f x).cl (C i) := fun k => by
      induction k with
      | zero => exact fun _ => ⟨[], rfl, fun _ => [], fun i hi => absurd hi (Nat.not_lt_zero i)⟩
      | succ k ih =>
        intro hk
        obtain ⟨l, hll, C, hC⟩ := ih (by omega)
        obtain ⟨x, D, d1, d2, d3⟩ := go k _ ((hel k (by omega)).trans (List.getElem?_eq_getElem (by omega)))
        refine ⟨l ++ [x], by simp [hll], fun i => if i = k then D else C i, fun i hi => ?_⟩
        by_cases e : i = k
        · subst e
          simp only [if_true]
          refine ⟨d2, d1, fun x' hx => ?_⟩
          rw [List.getElem?_append_right (by omega), hll, Nat.sub_self] at hx
          cases hx
          exact d3
        · simp only [if_neg e]
          obtain ⟨c1, c2, c3⟩ := hC i (by omega)
          refine ⟨c1, c2, fun x' hx => c3 x' ?_⟩
          rw [List.getElem?_append_left (by omega)] at hx
          exact hx
    obtain ⟨l, hll, C, hC⟩ := key len (Nat.le_refl _)
    refine ⟨⟨l, by rw [hll]; exact Nat.le_trans hl hm⟩, cr1 ?_ rfl⟩
    show Rel _ _ (.arr (l.map f) .no) _
    by_cases h0 : len = 0
    · subst h0
      obtain rfl : l = [] := List.length_eq_zero_iff.1 hll
      refine .arr0 _ _ _ (fun h => by cases h) ⟨fun ad h => ?_, fun h => by cases h⟩
      cases h
      exact spot.symm
    · have hsp := spot.resolve_left (by omega)
      obtain ⟨b, off, sp⟩ := a
      cases hsp
      refine .arr _ .no b off len cap s (fun j => (C (j / s)).getD (j % s) undef) ?_ (by rw [List.length_map, hll]) hl (fun h => by cases h) hs ?_ ?_ ?_
      · intro h
        have := congrArg List.length h
        rw [List.length_map, hll] at this
        exact h0 this
      · intro z hz
        obtain ⟨x, -, rfl⟩ := List.mem_map.1 hz
        exact hf x
      all_goals
        intro j c hj
        obtain ⟨x, hx, hcx⟩ := flat_at hs (fun x => (hf x).1) l j c hj
        have hjl : j / s < len := by rw [← hll]; exact (List.getElem?_eq_some_iff.1 hx).1
        obtain ⟨c1, c2, c3⟩ := hC (j / s) hjl
        have hmod := Nat.mod_lt j hs
        have hg : (C (j / s))[j % s]? = some ((C (j / s)).getD (j % s) undef) := by rw [List.getD_eq_getElem?_getD, List.getElem?_eq_getElem (by omega)]; rfl
        obtain ⟨r1, r2⟩ := (c3 x hx).2 _ _ _ hcx hg
      · have c4 := c2 (j % s) hmod
        rw [add_none, add_none, Nat.add_assoc, Nat.mul_comm, Nat.div_add_mod, hg] at c4
        exact ⟨cells_lt c4, c4, r2⟩
      · exact r1
theorem opens_valB {H α : Type} {enc : TypeId × Value → H} {W : World} {t : TypeId} {f : α → V} {p : α → Prop} (h : Opens enc W t fun l : {l : List {x : α // p x} // l.length ≤ maxLen} => .arr (l.1.map fun x => f x.1) .no) : Opens enc W t fun l : {l : List α // l.length ≤ maxLen ∧ ∀ x, x ∈ l → p x} => .arr (l.1.map f) .no := fun n cs y k => by
  obtain ⟨⟨l, hn⟩, hl⟩ := h n cs y k
  refine ⟨⟨l.map Subtype.val, by rw [List.length_map]; exact hn, fun x hx => ?_⟩, ?_⟩
  · obtain ⟨z, -, rfl⟩ := List.mem_map.1 hx
    exact z.2
  · simp only [List.map_map]
    exact hl
theorem opens_str {H : Type} {enc : TypeId × Value → H} {W : World} : Opens enc W 9 fun s : {s : ByteArray // s.size ≤ maxLen} => T s.1 := fun n cs y h => by
  obtain ⟨s, rfl, -, hs⟩ := DataW.trod_string Try.underlying9 h
  exact ⟨⟨s, hs⟩, cr1 (.imm _) rfl⟩
theorem opens3 {H : Type} {enc : TypeId × Value → H} {W : World} : Opens enc W 3 I := opens_int Try.underlying3
theorem opens57 {H : Type} {enc : TypeId × Value → H} {W : World} : Opens enc W 57 I := opens_int Try.underlying57
theorem k57 : Try.prog.cellsOf 57 = 1 := by kernel_rfl
theorem k9 : Try.prog.cellsOf 9 = 1 := by kernel_rfl
theorem opensPi {H : Type} {enc : TypeId × Value → H} {W : World} : Opens enc W 59 piV := fun n cs y h => by
  obtain ⟨hl, hf⟩ := fields Try.underlying59 h
  rw [show Try.prog.cellsOf 59 = 4 by kernel_rfl] at hl
  match cs, hl with
  | [c0, c1, c2, c3], _ =>
    obtain ⟨a, ha⟩ := one (opens57 (enc := enc)) (fun _ => rfl) (fld1 (hf 0 _ rfl) k57 rfl)
    obtain ⟨b, hb⟩ := one (opens3 (enc := enc)) (fun _ => rfl) (fld1 (hf 1 _ rfl) k3 rfl)
    obtain ⟨c, hc⟩ := one (opens3 (enc := enc)) (fun _ => rfl) (fld1 (hf 2 _ rfl) k3 rfl)
    obtain ⟨d, hd⟩ := one (opens3 (enc := enc)) (fun _ => rfl) (fld1 (hf 3 _ rfl) k3 rfl)
    exact ⟨⟨a, b, c, d⟩, cr_cons ha (cr_cons hb (cr_cons hc (cr_cons hd cr_nil)))⟩
theorem opensPl {H : Type} {enc : TypeId × Value → H} {W : World} : Opens enc W 96 plV := fun n cs y h => by
  obtain ⟨hl, hf⟩ := fields Try.underlying96 h
  rw [show Try.prog.cellsOf 96 = 4 by kernel_rfl] at hl
  match cs, hl with
  | [c0, c1, c2, c3], _ =>
    obtain ⟨a, ha⟩ := one (opens3 (enc := enc)) (fun _ => rfl) (fld1 (hf 0 _ rfl) k3 rfl)
    obtain ⟨b, hb⟩ := one (opens3 (enc := enc)) (fun _ => rfl) (fld1 (hf 1 _ rfl) k3 rfl)
    obtain ⟨c, hc⟩ := one (opens3 (enc := enc)) (fun _ => rfl) (fld1 (hf 2 _ rfl) k3 rfl)
    obtain ⟨d, hd⟩ := one (opens3 (enc := enc)) (fun _ => rfl) (fld1 (hf 3 _ rfl) k3 rfl)
    exact ⟨⟨a, b, c, d⟩, cr_cons ha (cr_cons hb (cr_cons hc (cr_cons hd cr_nil)))⟩
theorem opens52 {H : Type} {enc : TypeId × Value → H} {W : World} : Opens enc W 52 fun l : {l : List Pi // l.length ≤ maxLen} => .arr (l.1.map piV) .no := opens_sliceB (s := 4) Try.underlying52 (by decide) (by kernel_rfl) (fun x => ⟨rfl, rfl⟩) opensPi
theorem opens23 {H : Type} {enc : TypeId × Value → H} {W : World} : Opens enc W 23 fun l : {l : List Pl // l.length ≤ maxLen} => .arr (l.1.map plV) .no := opens_sliceB (s := 4) Try.underlying23 (by decide) (by kernel_rfl) (fun x => ⟨rfl, rfl⟩) opensPl
theorem opensNu {H : Type} {enc : TypeId × Value → H} {W : World} : Opens enc W 54 fun r : {r : Nu // r.p.length ≤ maxLen} => nuV r.1 := fun n cs y h => by
  obtain ⟨hl, hf⟩ := fields Try.underlying54 h
  rw [show Try.prog.cellsOf 54 = 3 by kernel_rfl] at hl
  match cs, hl with
  | [c0, c1, c2], _ =>
    obtain ⟨a, ha⟩ := one (opens3 (enc := enc)) (fun _ => rfl) (fld1 (hf 0 _ rfl) k3 rfl)
    obtain ⟨b, hb⟩ := one (opens3 (enc := enc)) (fun _ => rfl) (fld1 (hf 1 _ rfl) k3 rfl)
    obtain ⟨c, hc⟩ := one (opens52 (enc := enc)) (fun _ => rfl) (fld1 (hf 2 _ rfl) (show Try.prog.cellsOf 52 = 1 by kernel_rfl) rfl)
    exact ⟨⟨⟨a, b, c.1⟩, c.2⟩, cr_cons ha (cr_cons hb (cr_cons hc cr_nil))⟩
theorem opens55 {H : Type} {enc : TypeId × Value → H} {W : World} : Opens enc W 55 fun l : {l : List Nu // l.length ≤ maxLen ∧ ∀ r, r ∈ l → r.p.length ≤ maxLen} => seV l.1 := opens_valB (opens_sliceB (s := 3) Try.underlying55 (by decide) (by kernel_rfl) (fun x => ⟨rfl, rfl⟩) opensNu)
theorem opens24 {H : Type} {enc : TypeId × Value → H} {W : World} : Opens enc W 24 fun l : {l : List (List Nu) // l.length ≤ maxLen ∧ ∀ x, x ∈ l → x.length ≤ maxLen ∧ ∀ r, r ∈ x → r.p.length ≤ maxLen} => .arr (l.1.map seV) .no := opens_valB (opens_sliceB (s := 1) Try.underlying24 (by decide) (by kernel_rfl) (fun x => ⟨rfl, rfl⟩) opens55)
theorem opensFo {H : Type} {enc : TypeId × Value → H} {W : World} : Opens enc W 71 fun f : {f : Fo // f.t.size ≤ maxLen} => foV f.1 := fun n cs y h => by
  obtain ⟨hl, hf⟩ := fields Try.underlying71 h
  rw [show Try.prog.cellsOf 71 = 4 by kernel_rfl] at hl
  match cs, hl with
  | [c0, c1, c2, c3], _ =>
    obtain ⟨a, ha⟩ := one (opens3 (enc := enc)) (fun _ => rfl) (fld1 (hf 0 _ rfl) k3 rfl)
    obtain ⟨b, hb⟩ := one (opens3 (enc := enc)) (fun _ => rfl) (fld1 (hf 1 _ rfl) k3 rfl)
    obtain ⟨c, hc⟩ := one (opens3 (enc := enc)) (fun _ => rfl) (fld1 (hf 2 _ rfl) k3 rfl)
    obtain ⟨d, hd⟩ := one (opens_str (enc := enc)) (fun _ => rfl) (fld1 (hf 3 _ rfl) k9 rfl)
    exact ⟨⟨⟨a, b, c, d.1⟩, d.2⟩, cr_cons ha (cr_cons hb (cr_cons hc (cr_cons hd cr_nil)))⟩
theorem opens60 {H : Type} {enc : TypeId × Value → H} {W : World} : Opens enc W 60 fun l : {l : List Fo // l.length ≤ maxLen ∧ ∀ f, f ∈ l → f.t.size ≤ maxLen} => .arr (l.1.map foV) .no := opens_valB (opens_sliceB (s := 4) Try.underlying60 (by decide) (by kernel_rfl) (fun x => ⟨rfl, rfl⟩) opensFo)
theorem opensTe {H : Type} {enc : TypeId × Value → H} {W : World} : Opens enc W 62 fun t : {t : Te // t.f.length ≤ maxLen ∧ ∀ f, f ∈ t.f → f.t.size ≤ maxLen} => teV t.1 := fun n cs y h => by
  obtain ⟨hl, hf⟩ := fields Try.underlying62 h
  rw [show Try.prog.cellsOf 62 = 2 by kernel_rfl] at hl
  match cs, hl with
  | [c0, c1], _ =>
    obtain ⟨a, ha⟩ := one (opens3 (enc := enc)) (fun _ => rfl) (fld1 (hf 0 _ rfl) k3 rfl)
    obtain ⟨b, hb⟩ := one (opens60 (enc := enc)) (fun _ => rfl) (fld1 (hf 1 _ rfl) (show Try.prog.cellsOf 60 = 1 by kernel_rfl) rfl)
    exact ⟨⟨⟨a, b.1⟩, b.2⟩, cr_cons ha (cr_cons hb cr_nil)⟩
theorem opens22 {H : Type} {enc : TypeId × Value → H} {W : World} : Opens enc W 22 fun l : {l : List Te // l.length ≤ maxLen ∧ ∀ t, t ∈ l → t.f.length ≤ maxLen ∧ ∀ f, f ∈ t.f → f.t.size ≤ maxLen} => .arr (l.1.map teV) .no := opens_valB (opens_sliceB (s := 2) Try.underlying22 (by decide) (by kernel_rfl) (fun x => ⟨rfl, rfl⟩) opensTe)
def syL (s : Sy) : List V := [I s.top, I s.gen, I s.cas, I s.cls, .arr (s.te.map teV) .no, .arr (s.pl.map plV) .no, .arr (s.se.map seV) .no]
theorem opens26 {H : Type} {enc : TypeId × Value → H} {W : World} : Opens enc W 26 fun s : {s : Sy // Sm s} => .agg (syL s.1) := fun n cs y h => by
  obtain ⟨hl, hf⟩ := fields Try.underlying26 h
  rw [show Try.prog.cellsOf 26 = 7 by kernel_rfl] at hl
  match cs, hl with
  | [c0, c1, c2, c3, c4, c5, c6], _ =>
    obtain ⟨a, ha⟩ := one (opens3 (enc := enc)) (fun _ => rfl) (fld1 (hf 0 _ rfl) k3 rfl)
    obtain ⟨b, hb⟩ := one (opens3 (enc := enc)) (fun _ => rfl) (fld1 (hf 1 _ rfl) k3 rfl)
    obtain ⟨c, hc⟩ := one (opens3 (enc := enc)) (fun _ => rfl) (fld1 (hf 2 _ rfl) k3 rfl)
    obtain ⟨d, hd⟩ := one (opens3 (enc := enc)) (fun _ => rfl) (fld1 (hf 3 _ rfl) k3 rfl)
    obtain ⟨e, he⟩ := one (opens22 (enc := enc)) (fun _ => rfl) (fld1 (hf 4 _ rfl) (show Try.prog.cellsOf 22 = 1 by kernel_rfl) rfl)
    obtain ⟨g, hg⟩ := one (opens23 (enc := enc)) (fun _ => rfl) (fld1 (hf 5 _ rfl) (show Try.prog.cellsOf 23 = 1 by kernel_rfl) rfl)
    obtain ⟨k, hk⟩ := one (opens24 (enc := enc)) (fun _ => rfl) (fld1 (hf 6 _ rfl) (show Try.prog.cellsOf 24 = 1 by kernel_rfl) rfl)
    exact ⟨⟨⟨a, b, c, d, e.1, g.1, k.1⟩, ⟨e.2.1, g.2, k.2.1, e.2.2, k.2.2⟩⟩, cr_cons ha (cr_cons hb (cr_cons hc (cr_cons hd (cr_cons he (cr_cons hg (cr_cons hk cr_nil))))))⟩
theorem in_sys {H : Type} {enc : TypeId × Value → H} {W : World} {base : Nat} {v : Value} {d : DataW H} {p : List MemPlace} (hv : Value.okWide Try.prog W .any base 26 v) (hA : DataW.Trod enc Try.prog W 0 (fun _ => true) true 26 v d p) : ∃ s : Sy, Sm s ∧ Rel (sg0 W) W (syV s) v := by
  obtain ⟨x, hx⟩ := in_agg (g := fun x : {s : Sy // Sm s} => syL x.1) Try.underlying26 opens26 (fun _ => rfl) hv hA
  exact ⟨x.1, x.2, hx⟩
end Go.Proofs.Ytgodfjbmblghnaa


set_option linter.unusedVariables false
set_option linter.unusedSimpArgs false
set_option linter.unnecessarySimpa false
set_option maxRecDepth 20000
set_option maxHeartbeats 2000000
namespace Go.Proofs.Ytgodfjbmblghnaa
open Go Go.Ab Go.Proofs
attribute [local congr] g_bin g_nilS g_nilP g_un g_ext g_bx g_fa g_ld g_st g_ix g_ixA g_slc g_mk g_bs g_bd g_nc g_cv g_len g_lenT g_app g_appB g_cpy g_mm g_call g_callG g_calm g_calmG g_range g_res g_pick g_cond g_loop g_Jv g_eqS g_eqP g_fd g_ixT g_ta g_lkp g_upd g_mkM g_appS g_inv g_callE g_callEG g_invE g_zr g_wr
open Go.ChangeShapes Go.WideShapes Go.ChangeAt Go.RowKit
theorem opens36 {H : Type} {enc : TypeId × Value → H} {W : World} : Opens enc W 36 fun x : Int × Int × Int × Int => .agg [I x.1, I x.2.1, I x.2.2.1, I x.2.2.2] := fun n cs y h => by
  obtain ⟨hl, hf⟩ := fields Try.underlying36 h
  rw [show Try.prog.cellsOf 36 = 4 by kernel_rfl] at hl
  match cs, hl with
  | [c0, c1, c2, c3], _ =>
    obtain ⟨a, ha⟩ := one (opens3 (enc := enc)) (fun _ => rfl) (fld1 (hf 0 _ rfl) k3 rfl)
    obtain ⟨b, hb⟩ := one (opens3 (enc := enc)) (fun _ => rfl) (fld1 (hf 1 _ rfl) k3 rfl)
    obtain ⟨c, hc⟩ := one (opens3 (enc := enc)) (fun _ => rfl) (fld1 (hf 2 _ rfl) k3 rfl)
    obtain ⟨d, hd⟩ := one (opens3 (enc := enc)) (fun _ => rfl) (fld1 (hf 3 _ rfl) k3 rfl)
    exact ⟨(a, b, c, d), cr_cons ha (cr_cons hb (cr_cons hc (cr_cons hd cr_nil)))⟩
theorem in_ask {H : Type} {enc : TypeId × Value → H} {W : World} {base : Nat} {v : Value} {d : DataW H} {p : List MemPlace} (hv : Value.okWide Try.prog W .any base 36 v) (hA : DataW.Trod enc Try.prog W 0 (fun _ => true) true 36 v d p) : ∃ n t g k : Int, Rel (sg0 W) W (asV n t g k) v := by
  obtain ⟨x, hx⟩ := in_agg (g := fun x : Int × Int × Int × Int => [I x.1, I x.2.1, I x.2.2.1, I x.2.2.2]) Try.underlying36 opens36 (fun _ => rfl) hv hA
  exact ⟨x.1, x.2.1, x.2.2.1, x.2.2.2, hx⟩
theorem in_nu {H : Type} {enc : TypeId × Value → H} {W : World} {base : Nat} {v : Value} {d : DataW H} {p : List MemPlace} (hv : Value.okWide Try.prog W .any base 54 v) (hA : DataW.Trod enc Try.prog W 0 (fun _ => true) true 54 v d p) : ∃ r : Nu, r.p.length ≤ 9223372036854775807 ∧ Rel (sg0 W) W (nuV r) v := by
  obtain ⟨x, hx⟩ := in_agg (g := fun r : {r : Nu // r.p.length ≤ maxLen} => [I r.1.b, I r.1.d, .arr (r.1.p.map piV) .no]) Try.underlying54 opensNu (fun _ => rfl) hv hA
  exact ⟨x.1, x.2, hx⟩
end Go.Proofs.Ytgodfjbmblghnaa


set_option linter.unusedVariables false
set_option linter.unusedSimpArgs false
set_option linter.unnecessarySimpa false
set_option maxRecDepth 20000
set_option maxHeartbeats 2000000
namespace Go.Proofs.Ytgodfjbmblghnaa
open Go Go.Ab Go.Proofs
attribute [local congr] g_bin g_nilS g_nilP g_un g_ext g_bx g_fa g_ld g_st g_ix g_ixA g_slc g_mk g_bs g_bd g_nc g_cv g_len g_lenT g_app g_appB g_cpy g_mm g_call g_callG g_calm g_calmG g_range g_res g_pick g_cond g_loop g_Jv g_eqS g_eqP g_fd g_ixT g_ta g_lkp g_upd g_mkM g_appS g_inv g_callE g_callEG g_invE g_zr g_wr
def cntG (s : Sy) (r : Nu) (g : Int) : Int := if 0 ≤ idxI (fun p : Pi => decide (p.k = 2)) r.p then (s.te.getD (r.p.getD (idxI (fun p : Pi => decide (p.k = 2)) r.p).toNat default).t.toNat default).g else g
end Go.Proofs.Ytgodfjbmblghnaa


set_option linter.unusedVariables false
set_option linter.unusedSimpArgs false
set_option linter.unnecessarySimpa false
set_option maxRecDepth 20000
set_option maxHeartbeats 2000000
namespace Go.Proofs.Ytgodfjbmblghnaa
open Go Go.Ab Go.Proofs
attribute [local congr] g_bin g_nilS g_nilP g_un g_ext g_bx g_fa g_ld g_st g_ix g_ixA g_slc g_mk g_bs g_bd g_nc g_cv g_len g_lenT g_app g_appB g_cpy g_mm g_call g_callG g_calm g_calmG g_range g_res g_pick g_cond g_loop g_Jv g_eqS g_eqP g_fd g_ixT g_ta g_lkp g_upd g_mkM g_appS g_inv g_callE g_callEG g_invE g_zr g_wr
def fmP (pcs : Nat → List Sd) (i : Nat) : List Sd := (List.range i).flatMap pcs
theorem fm_s (pcs : Nat → List Sd) (i : Nat) : fmP pcs (i + 1) = fmP pcs i ++ pcs i := by unfold fmP; rw [List.range_succ, List.flatMap_append]; simp
end Go.Proofs.Ytgodfjbmblghnaa


set_option linter.unusedVariables false
set_option linter.unusedSimpArgs false
set_option linter.unnecessarySimpa false
set_option maxRecDepth 20000
set_option maxHeartbeats 2000000
namespace Go.Proofs.Ytgodfjbmblghnaa
open Go Go.Ab Go.Proofs
attribute [local congr] g_bin g_nilS g_nilP g_un g_ext g_bx g_fa g_ld g_st g_ix g_ixA g_slc g_mk g_bs g_bd g_nc g_cv g_len g_lenT g_app g_appB g_cpy g_mm g_call g_callG g_calm g_calmG g_range g_res g_pick g_cond g_loop g_Jv g_eqS g_eqP g_fd g_ixT g_ta g_lkp g_upd g_mkM g_appS g_inv g_callE g_callEG g_invE g_zr g_wr
theorem okAsk_parts {s : Sy} {n t g k : Int} (h : okAsk s n t g k = true) : okSy s = true ∧ 0 ≤ n ∧ n ≤ s.top ∧ s.top ≤ 999999999999 ∧ 0 ≤ t ∧ t < s.se.length ∧ 0 ≤ g ∧ g < s.gen ∧ 0 ≤ k ∧ k < s.cas := by
  unfold okAsk at h
  simp only [Bool.and_eq_true, inB_iff] at h
  have ht := (okSy.parts h.1.1.1.1).1
  unfold okHd at ht
  simp only [Bool.and_eq_true, inB_iff] at ht
  refine ⟨h.1.1.1.1, ?_⟩
  omega
def okRt (s : Sy) (n t g k : Int) : Bool := decide (0 ≤ n) && decide (n ≤ s.top) && decide (0 ≤ t) && decide (t < s.se.length) && decide (0 ≤ g) && decide (g < s.gen) && decide (0 ≤ k) && decide (k < s.cas)
theorem c54 (s : Sy) (n t g k : Int) (H : Hp) (sm : Sm s) : Ret Try.prog 54 [syV s, asV n t g k] H (B (okRt s n t g k)) H := by
  have := sm.se
  refine mk54 _ _ rfl (Nat.le_refl _) (.inl rfl) ?_
  simp only [vc54, real]
  repeat (first | (with_reducible first | refine Ju.go ?_ | (refine Hd.go ?_; intro K Q hK hQ; simp only [nod_agg, List.map_cons, nodL_imm, nodL_arr, nd_no, List.map_nil, e_bxI, okE_agg, lv_cons, List.length_nil, Nat.zero_add, Nat.reduceAdd, all_c, ck_I, ck_arr, all_n, Bool.and_self, and_true, true_and, nod_cptr, e_fac, Nat.reduceLeDiff, List.getD_cons_zero, e_ldc, nod_imm, Try.underlying3, e_geq, e_leq, e_gT, j_and', j_one, List.getD_cons_succ, e_ldcV, nod_arr, e_lenA, List.length_map, e_lss]; subst hK hQ) | refine Jr.go ?_) | refine sd ?_)
  exact end1 (fzI _)
theorem okAsk_rt (s : Sy) (n t g k : Int) : okAsk s n t g k = (okSy s && okRt s n t g k) := by
  unfold okAsk okRt inB
  rw [Bool.eq_iff_iff]
  simp only [Bool.and_eq_true, decide_eq_true_eq]
  constructor <;> intro h <;> refine ⟨?_, ?_⟩ <;> simp only [h, and_true, true_and] <;> omega
def rfE (s : Sy) (n t g k : Int) (sc : Bool) : Int := if okAsk s n t g k = true then (if sc = true ∧ 20000 < n then 4 else 0) else 2
theorem c22 (s : Sy) (n t g k : Int) (sc : Bool) (H : Hp) (sm : Sm s) : Ret Try.prog 22 [syV s, asV n t g k, B sc] H (I (rfE s n t g k sc)) H := by
  have e := okAsk_rt s n t g k
  unfold rfE
  refine mk22 _ _ _ rfl (Nat.le_refl _) (.inl rfl) ?_
  simp only [vc22, real]
  repeat (first | (with_reducible first | refine Ju.go ?_ | (refine Hd.go ?_; intro K Q hK hQ; simp only [nod_agg, List.map_cons, nodL_imm, nodL_arr, nd_no, List.map_nil, e_bxI, okE_agg, lv_cons, List.length_nil, Nat.zero_add, Nat.reduceAdd, all_c, ck_I, ck_arr, all_n, Bool.and_self, and_true, true_and, nod_cptr, e_ldcA]; subst hK hQ) | refine Jr.go ?_) | refine sd ?_)
  refine call_of (c17 s _ sm) ?_
  cases ho : okSy s
  · rw [ho, Bool.false_and] at e
    rw [e, if_neg (by decide)]
    repeat (first | (with_reducible first | refine Ju.go ?_ | (refine Hd.go ?_; intro K Q hK hQ; simp only [nod_imm, e_not, Bool.not_false, nod_cptr, e_ldcA, lv_cons, List.length_nil, Nat.zero_add, Nat.reduceAdd, nod_agg, List.map_cons, nodL_imm, List.map_nil, true_and, nodL_arr, nd_no, e_gF, cond_true, j_one, List.getD_cons_succ, List.getD_cons_zero, e_cond, if_true]; subst hK hQ) | refine Jr.go ?_) | refine sd ?_)
    exact end1 (fzI _)
  · rw [ho, Bool.true_and] at e
    rw [e]
    repeat (first | (with_reducible first | refine Ju.go ?_ | (refine Hd.go ?_; intro K Q hK hQ; simp only [nod_imm, e_not, Bool.not_true, nod_cptr, e_ldcA, lv_cons, List.length_nil, Nat.zero_add, Nat.reduceAdd, nod_agg, List.map_cons, nodL_imm, List.map_nil, true_and, nodL_arr, nd_no, e_gF, cond_false]; subst hK hQ) | refine Jr.go ?_) | refine sd ?_)
    refine call_of (c54 s n t g k _ sm) ?_
    cases hr : okRt s n t g k
    · repeat (first | (with_reducible first | refine Ju.go ?_ | (refine Hd.go ?_; intro K Q hK hQ; simp only [nod_imm, e_not, Bool.not_false, List.getD_cons_succ, List.getD_cons_zero, e_cond, if_true]; subst hK hQ) | refine Jr.go ?_) | refine sd ?_)
      exact end1 (fzI _)
    · rw [if_pos rfl]
      by_cases hc : sc = true ∧ 20000 < n
      · obtain ⟨rfl, h2⟩ := hc
        rw [if_pos ⟨rfl, h2⟩]
        repeat (first | (with_reducible first | refine Ju.go ?_ | (refine Hd.go ?_; intro K Q hK hQ; simp only [nod_imm, e_not, Bool.not_true, List.getD_cons_succ, List.getD_cons_zero, e_cond, Bool.false_eq_true, if_false, nod_cptr, Try.underlying3, e_fac, Nat.zero_add, lv_cons, List.length_nil, Nat.reduceAdd, Nat.reduceLeDiff, e_ldc, e_gtr, h2, decide_true, true_and, e_gT, cond_true, j_one, if_true]; subst hK hQ) | refine Jr.go ?_) | refine sd ?_)
        exact end1 (fzI _)
      · rw [if_neg hc]
        cases sc
        · repeat (first | (with_reducible first | refine Ju.go ?_ | (refine Hd.go ?_; intro K Q hK hQ; simp only [nod_imm, e_not, Bool.not_true, List.getD_cons_succ, List.getD_cons_zero, e_cond, Bool.false_eq_true, if_false, nod_cptr, Try.underlying3, e_fac, Nat.zero_add, lv_cons, List.length_nil, Nat.reduceAdd, Nat.reduceLeDiff, e_ldc, e_gtr, true_and, e_gT, cond_false, j_one]; subst hK hQ) | refine Jr.go ?_) | refine sd ?_)
          exact end1 (fzI _)
        · have h2 : ¬ 20000 < n := fun h => hc ⟨rfl, h⟩
          repeat (first | (with_reducible first | refine Ju.go ?_ | (refine Hd.go ?_; intro K Q hK hQ; simp only [nod_imm, e_not, Bool.not_true, List.getD_cons_succ, List.getD_cons_zero, e_cond, Bool.false_eq_true, if_false, nod_cptr, Try.underlying3, e_fac, Nat.zero_add, lv_cons, List.length_nil, Nat.reduceAdd, Nat.reduceLeDiff, e_ldc, e_gtr, h2, decide_false, true_and, e_gT, cond_true, j_one]; subst hK hQ) | refine Jr.go ?_) | refine sd ?_)
          exact end1 (fzI _)
end Go.Proofs.Ytgodfjbmblghnaa


set_option linter.unusedVariables false
set_option linter.unusedSimpArgs false
set_option linter.unnecessarySimpa false
set_option maxRecDepth 20000
set_option maxHeartbeats 2000000
namespace Go.Proofs.Ytgodfjbmblghnaa
open Go Go.Ab Go.Proofs
attribute [local congr] g_bin g_nilS g_nilP g_un g_ext g_bx g_fa g_ld g_st g_ix g_ixA g_slc g_mk g_bs g_bd g_nc g_cv g_len g_lenT g_app g_appB g_cpy g_mm g_call g_callG g_calm g_calmG g_range g_res g_pick g_cond g_loop g_Jv g_eqS g_eqP g_fd g_ixT g_ta g_lkp g_upd g_mkM g_appS g_inv g_callE g_callEG g_invE g_zr g_wr
theorem ru_div {s : Sy} {n t : Int} (ru : RuOk s n t) (hn : 0 ≤ n) (h : (ruOf s n t).d ≠ 0) : 2 ≤ (ruOf s n t).d ∧ 1 ≤ n.tdiv (ruOf s n t).d ∧ n.tdiv (ruOf s n t).d < n ∧ 0 ≤ n.tmod (ruOf s n t).d ∧ n.tmod (ruOf s n t).d < n := by
  have a3 := ru.b
  have a4 := ru.d
  have h2 : 2 ≤ (ruOf s n t).d := by omega
  have h3 : (ruOf s n t).d ≤ n := by omega
  rw [Int.tdiv_eq_ediv_of_nonneg hn, Int.tmod_eq_emod_of_nonneg hn]
  refine ⟨h2, Int.le_ediv_of_mul_le (by omega) (by omega), ?_, Int.emod_nonneg _ (by omega), ?_⟩
  · exact Int.ediv_lt_self_of_pos_of_ne_one (by omega) (by omega)
  · have := Int.emod_lt_of_pos n (show 0 < (ruOf s n t).d by omega)
    omega
def pcsF (f : Nat) (s : Sy) (n t g k d : Int) (i : Nat) : List Sd :=
  pcW s { atOf s n t g k d with p := (i : Int) } ((ruOf s n t).p.getD i default) (sayF f s (atOf s n t g k d).q ((ruOf s n t).p.getD i default).s (atOf s n t g k d).c (atOf s n t g k d).k ((atOf s n t g k d).d + 1)) (sayF f s (atOf s n t g k d).e ((ruOf s n t).p.getD i default).s (atOf s n t g k d).g (atOf s n t g k d).k ((atOf s n t g k d).d + 1))
theorem sayF_s (f : Nat) (s : Sy) (n t g k d : Int) : sayF (f + 1) s n t g k d = fmP (pcsF f s n t g k d) (ruOf s n t).p.length := rfl
end Go.Proofs.Ytgodfjbmblghnaa


set_option linter.unusedVariables false
set_option linter.unusedSimpArgs false
set_option linter.unnecessarySimpa false
set_option maxRecDepth 20000
set_option maxHeartbeats 2000000
namespace Go.Proofs.Ytgodfjbmblghnaa
open Go Go.Ab Go.Proofs
attribute [local congr] g_bin g_nilS g_nilP g_un g_ext g_bx g_fa g_ld g_st g_ix g_ixA g_slc g_mk g_bs g_bd g_nc g_cv g_len g_lenT g_app g_appB g_cpy g_mm g_call g_callG g_calm g_calmG g_range g_res g_pick g_cond g_loop g_Jv g_eqS g_eqP g_fd g_ixT g_ta g_lkp g_upd g_mkM g_appS g_inv g_callE g_callEG g_invE g_zr g_wr
def fil (P : Int → Bool) (n : Int) : List Int := ((List.range (n.toNat + 1)).map Int.ofNat).filter P
theorem fil_snoc (P : Int → Bool) (i : Nat) : ((List.range (i + 1)).map Int.ofNat).filter P = ((List.range i).map Int.ofNat).filter P ++ (if P i = true then [(i : Int)] else []) := by
  rw [List.range_succ, List.map_append, List.filter_append]
  congr 1
  show List.filter _ [(i : Int)] = _
  rw [List.filter_cons]
  rfl
theorem fil_len (P : Int → Bool) (i : Nat) : (((List.range i).map Int.ofNat).filter P).length ≤ i := by
  refine Nat.le_trans (List.length_filter_le _ _) ?_
  simp
theorem fil_len' (P : Int → Bool) (n : Int) : (fil P n).length ≤ n.toNat + 1 := fil_len P _
theorem c58g (P : Int → Bool) (F : Nat) (caps : List V) (n : Int) (H : Hp) (hn : 0 ≤ n) (h2 : n ≤ 20000) (hc : ∀ (m : Int) (H : Hp), 0 ≤ m → m ≤ n → Ret Try.prog F (I m :: caps) H (.tup [I m, B (P m)]) H) :
    Ret Try.prog 58 [I n, .fn F caps] H (ints (fil P n) .no) H := by
  have en : ((n.toNat : Nat) : Int) = n := by omega
  refine mk58 _ _ rfl (Nat.le_refl _) (.inl rfl) ?_
  simp only [vc58, real]
  repeat (first | (with_reducible first | refine Ju.go ?_ | (refine Hd.go ?_; intro K Q hK hQ; simp only [nod_imm, Try.underlying3, e_add]; subst hK hQ) | refine Jr.go ?_) | refine sd ?_)
  refine loop_of (fun z : Nat × Fl => z.1 ≤ n.toNat + 1 ∧ z.2.ap = true) (fun z => [.fn F caps, ints (((List.range z.1).map Int.ofNat).filter P) z.2, I (n + 1), I z.1]) (fun _ => H) (fun z => n.toNat + 1 - z.1) (0, .full) ⟨Nat.zero_le _, rfl⟩ rfl rfl ?_
  intro ⟨i, f⟩ ⟨hi, hf⟩
  dsimp only at hi hf ⊢
  repeat (first | (with_reducible first | refine Ju.go ?_ | (refine Hd.go ?_; intro K Q hK hQ; simp only [List.getD_cons_succ, List.getD_cons_zero, nod_imm, Try.underlying3, e_lss, e_cond, decide_eq_true_eq]; subst hK hQ) | refine Jr.go ?_) | refine sd ?_)
  by_cases hlt : i < n.toNat + 1
  · have d : (i : Int) < n + 1 := by omega
    have hs := fil_snoc P i
    have hl := fil_len P i
    repeat (first | (with_reducible first | refine Ju.go ?_ | (refine Hd.go ?_; intro K Q hK hQ; simp only [d, if_true, List.getD_cons_zero, nod_fn, List.getD_cons_succ, nod_imm, e_callEG]; subst hK hQ) | refine Jr.go ?_) | refine sd ?_)
    refine call_of (hc i _ (by omega) (by omega)) ?_
    cases hr : P i
    · rw [hr] at hs
      repeat (first | (with_reducible first | refine Ju.go ?_ | (refine Hd.go ?_; intro K Q hK hQ; simp only [nod_tup, List.map_cons, nod2_imm, List.map_nil, e_x20, e_x21, List.getD_cons_zero, List.getD_cons_succ, nod_imm, e_cond, Bool.false_eq_true, if_false, Try.underlying3, e_add]; subst hK hQ) | refine Jr.go ?_) | refine sd ?_)
      exact ⟨(i + 1, f), ⟨by dsimp only; omega, hf⟩, by dsimp only; rw [hs]; simp; rfl, rfl, by dsimp only; omega⟩
    · rw [hr] at hs
      repeat (first | (with_reducible first | refine Ju.go ?_ | (refine Hd.go ?_; intro K Q hK hQ; simp only [nod_tup, List.map_cons, nod2_imm, List.map_nil, e_x20, e_x21, List.getD_cons_zero, List.getD_cons_succ, nod_imm, e_cond, if_true, bs1, nod_ints, nd_full, e_app, hf, true_and, Try.underlying3, e_add]; subst hK hQ) | refine Jr.go ?_) | refine sd ?_)
      exact ⟨(i + 1, .own), ⟨by dsimp only; omega, rfl⟩, by dsimp only; rw [hs]; rfl, rfl, by dsimp only; omega⟩
  · have d : ¬ (i : Int) < n + 1 := by omega
    obtain rfl : i = n.toNat + 1 := by omega
    repeat (first | (with_reducible first | refine Ju.go ?_ | (refine Hd.go ?_; intro K Q hK hQ; simp only [d, if_false]; subst hK hQ) | refine Jr.go ?_) | refine sd ?_)
    have : (((List.range (n.toNat + 1)).map Int.ofNat).filter P) = fil P n := rfl
    rw [this]
    cases f
    · exact end1 (.keep _ (bel_ints _ _ _))
    · exact end1 (.keep _ (bel_ints _ _ _))
    · exact end1 (.full _ (bel_ints _ _ _))
def isD (s u : Sy) (t g k m : Int) : Bool := ((saW s m t g k).all gdW != (saW u m t g k).all gdW) || ((saW s m t g k).all gdW && !decide ((trW s m t g k).map Sd.x = (trW u m t g k).map Sd.x))
theorem c62 (s u : Sy) (n t g k m : Int) (H : Hp) (sm : Sm s) (su : Sm u) (hs : okAsk s m t g k = true) (hu : okAsk u m t g k = true) :
    Ret Try.prog 62 [I m, .cptr (syV s), .cptr (asV n t g k), .cptr (syV u)] H (.tup [I m, B (isD s u t g k m)]) H := by
  unfold isD
  have l1 := trW_len sm hs
  have l2 := trW_len su hu
  refine mk62 _ _ _ _ rfl (Nat.le_refl _) (.inl rfl) ?_
  simp only [vc62, real]
  repeat (first | (with_reducible first | refine Ju.go ?_ | (refine Hd.go ?_; intro K Q hK hQ; simp only [nod_cptr, e_ldcA, lv_cons, List.length_nil, Nat.zero_add, Nat.reduceAdd, true_and, nod_agg, List.map_cons, nodL_imm, nodL_arr, nd_no, List.map_nil, e_bd1, okE_agg, all_c, ck_I, ck_arr, all_n, Bool.and_self, and_true, Nat.reduceLeDiff, cl_agg, spl_0, spl_n, e_bd0, nod_imm]; subst hK hQ) | refine Jr.go ?_) | refine sd ?_)
  refine calm_of (fun H => c60 n t g k m H) ?_
  repeat (first | (with_reducible first | refine Ju.go ?_ | (refine Hd.go ?_; intro K Q hK hQ; simp only [nod_agg, List.map_cons, nodL_imm, nodL_arr, nd_no, List.map_nil]; subst hK hQ) | refine Jr.go ?_) | refine sd ?_)
  refine call_ofD (c52 s m t g k _ sm hs) ?_
  rw [tx_tb]
  repeat (first | (with_reducible first | refine Ju.go ?_ | (refine Hd.go ?_; intro K Q hK hQ; simp only [nod_tup, List.map_cons, nod2_arr, nd_no, nod2_imm, List.map_nil, e_x20, e_x21, List.getD_cons_succ, List.getD_cons_zero, nod_cptr, e_ldcA, lv_cons, List.length_nil, Nat.zero_add, Nat.reduceAdd, true_and, nod_agg, nodL_imm, nodL_arr, e_bd1, okE_agg, all_c, ck_I, ck_arr, all_n, Bool.and_self, and_true, Nat.reduceLeDiff, cl_agg, spl_0, spl_n, e_bd0, nod_imm]; subst hK hQ) | refine Jr.go ?_) | refine sd ?_)
  refine calm_of (fun H => c60 n t g k m H) ?_
  repeat (first | (with_reducible first | refine Ju.go ?_ | (refine Hd.go ?_; intro K Q hK hQ; simp only [nod_agg, List.map_cons, nodL_imm, nodL_arr, nd_no, List.map_nil]; subst hK hQ) | refine Jr.go ?_) | refine sd ?_)
  refine call_ofD (c52 u m t g k _ su hu) ?_
  rw [tx_tb]
  generalize (saW s m t g k).all gdW = x
  generalize (saW u m t g k).all gdW = y
  cases x
  · cases y
    · repeat (first | (with_reducible first | refine Ju.go ?_ | (refine Hd.go ?_; intro K Q hK hQ; simp only [nod_tup, List.map_cons, nod2_arr, nd_no, nod2_imm, List.map_nil, e_x20, e_x21, List.getD_cons_succ, List.getD_cons_zero, nod_imm, Try.underlying4, e_bne, beq_self_eq_true, Bool.not_true, nod_arr, nod_nod, e_gT, cond_false, true_and, e_gF, j_one]; subst hK hQ) | refine Jr.go ?_) | refine sd ?_)
      exact end2 rfl rfl (fzI _) (fzI _)
    · repeat (first | (with_reducible first | refine Ju.go ?_ | (refine Hd.go ?_; intro K Q hK hQ; simp only [nod_tup, List.map_cons, nod2_arr, nd_no, nod2_imm, List.map_nil, e_x20, e_x21, List.getD_cons_succ, List.getD_cons_zero, nod_imm, Try.underlying4, e_bne, nod_arr, nod_nod, e_gT, cond_false, true_and, e_gF, j_and', Bool.and_true, j_one]; subst hK hQ) | refine Jr.go ?_) | refine sd ?_)
      exact end2 rfl rfl (fzI _) (fzI _)
  · cases y
    · repeat (first | (with_reducible first | refine Ju.go ?_ | (refine Hd.go ?_; intro K Q hK hQ; simp only [nod_tup, List.map_cons, nod2_arr, nd_no, nod2_imm, List.map_nil, e_x20, e_x21, List.getD_cons_succ, List.getD_cons_zero, nod_imm, Try.underlying4, e_bne, nod_arr, nod_nod, e_gT, cond_true, true_and, e_gF]; subst hK hQ) | refine Jr.go ?_) | refine sd ?_)
      exact end2 rfl rfl (fzI _) (fzI _)
    · repeat (first | (with_reducible first | refine Ju.go ?_ | (refine Hd.go ?_; intro K Q hK hQ; simp only [nod_tup, List.map_cons, nod2_arr, nd_no, nod2_imm, List.map_nil, e_x20, e_x21, List.getD_cons_succ, List.getD_cons_zero, nod_imm, Try.underlying4, e_bne, beq_self_eq_true, Bool.not_true, nod_arr, nod_nod, e_gT, cond_true, true_and, e_gF, cond_false]; subst hK hQ) | refine Jr.go ?_) | refine sd ?_)
      refine call_of (c61 _ _ _ (by rw [List.length_map]; omega)) ?_
      repeat (first | (with_reducible first | refine Ju.go ?_ | (refine Hd.go ?_; intro K Q hK hQ; simp only [nod_imm, e_not]; subst hK hQ) | refine Jr.go ?_) | refine sd ?_)
      exact end2 rfl rfl (fzI _) (fzI _)
theorem bs2Y (s u : Sy) (z : V) (K : V → Prop) : aBS 7 2 z [(0, syV s), (1, syV u)] K = K (.arr [syV s, syV u] .full) := by
  have h : ∀ s : Sy, (okE 7 (syV s)) = True := fun s => eq_true ⟨rfl, fun x hx => by
    simp only [V.cl, List.mem_cons, List.not_mem_nil, or_false] at hx
    rcases hx with rfl | rfl | rfl | rfl | rfl | rfl | rfl <;> rfl⟩
  simp [aBS, aPs, setP, h]
theorem okAsk_le2 {s u : Sy} {n t g k : Int} (h : scE [s, u] n t g k = 0) : okAsk s n t g k = true ∧ okAsk u n t g k = true ∧ n ≤ 20000 := by
  unfold scE at h
  simp only [List.all_cons, List.all_nil, Bool.and_true] at h
  split at h
  · rename_i ho
    rw [Bool.and_eq_true] at ho
    split at h
    · omega
    · exact ⟨ho.1, ho.2, by omega⟩
  · omega
theorem c30 (s u : Sy) (n t g k : Int) (H : Hp) (sm : Sm s) (su : Sm u) : Ret Try.prog 30 [syV s, syV u, asV n t g k] H (.tup [ints (if scE [s, u] n t g k = 0 then fil (isD s u t g k) n else []) .no, I (scE [s, u] n t g k)]) H := by
  refine mk30 _ _ _ rfl (Nat.le_refl _) (.inl rfl) ?_
  simp only [vc30, real]
  repeat (first | (with_reducible first | refine Ju.go ?_ | (refine Hd.go ?_; intro K Q hK hQ; simp only [nod_agg, List.map_cons, nodL_imm, nodL_arr, nd_no, List.map_nil, e_bxI, okE_agg, lv_cons, List.length_nil, Nat.zero_add, Nat.reduceAdd, all_c, ck_I, ck_arr, all_n, Bool.and_self, and_true, true_and, nod_cptr, e_ldcA, bs2Y, nod_arr, nd_full]; subst hK hQ) | refine Jr.go ?_) | refine sd ?_)
  refine call_of (c57 [s, u] n t g k _ (fun x hx => by
    simp only [List.mem_cons, List.not_mem_nil, or_false] at hx
    rcases hx with rfl | rfl <;> assumption) (by simp)) ?_
  by_cases he : scE [s, u] n t g k = 0
  · obtain ⟨h1, h2, h3⟩ := okAsk_le2 he
    have h0 := (okAsk_parts h1).2.1
    rw [if_pos he, he]
    repeat (first | (with_reducible first | refine Ju.go ?_ | (refine Hd.go ?_; intro K Q hK hQ; simp only [nod_imm, Try.underlying29, e_neq, decide_true, Bool.not_true, List.getD_cons_succ, List.getD_cons_zero, e_cond, Bool.false_eq_true, if_false, nod_cptr, e_fac, Nat.zero_add, lv_cons, List.length_nil, Nat.reduceAdd, Nat.reduceLeDiff, true_and, e_ldc]; subst hK hQ) | refine Jr.go ?_) | refine sd ?_)
    refine call_of (c58g (isD s u t g k) 62 _ n _ h0 h3 fun m H m0 m1 => c62 s u n t g k m H sm su (okAsk_le h1 m0 m1) (okAsk_le h2 m0 m1)) ?_
    repeat (first | (with_reducible first | refine Ju.go ?_ | (refine Hd.go ?_; intro K Q hK hQ; simp only [Try.underlying3, Try.underlying4, Try.underlying5, Try.underlying9, Try.underlying29, Try.underlying57, Try.underlying55, j_one, j_side, j_tl, j_fl, nod_nod, nod_imm, nod_ints, nd_no, nd_own, nd_full, nd_fO, oF_ap, oF_succ, nod_sl, nod_ptr, nod_cptr, nod_fn, nod_junk, nodL_imm, nod_agg, nod_tup, nod2_imm, nod2_agg, cl_imm, cl_ints, cl_agg, e_add, e_sub, e_mul, e_quo, e_rem, e_eql, e_neq, e_lss, e_leq, e_gtr, e_geq, e_beq, e_bne, e_neg, e_not, e_pick, e_cond, e_gT, e_gF, e_len, e_lenA, e_lenS, e_ix, e_ixS, e_ldc, e_ldci, e_fa, rep_cl, rep_I, e_bx, okE_I, okE_B, okE_E8, okE_ints, stV_imm, stV_ints, j_and', j_or', List.getD_cons_zero, List.getD_cons_succ, List.map_cons, List.map_nil, decide_eq_true_eq, Int.toNat_natCast, Nat.mul_one, Nat.zero_add, true_and, and_true, List.length_map, Bool.not_eq_true', decide_eq_false_iff_not, nod_lists, e_lenL, e_ixL, okE_lists, bs1, bs1L, bs2L, e_app, e_appL, e_app0, e_app0L, e_slcLo, e_slcHi, e_slcLH, e_slcHH, e_slcLHH, e_callG, e_callY, e_calmG, e_slS0, e_slSLo, e_slSHi, e_slSLH, e_slSHH, e_slSLHH, e_max2, e_min2, e_max3, e_x20, e_x21, e_x30, e_x31, e_x32, nod2_ints, nod2_lists, rep_fl, bs0, e_nilE, if_true, if_false, cond_true, cond_false, decide_true, decide_false, eq_self, Bool.false_eq_true, false_implies, true_implies, ap_own, ap_full, e_slcLoL, e_slcHiL, e_slcLHL, hp_assoc, hp_cons, hp_nil, hp_len, hp_len_cons, hp_len_nil, lv_cons, lv_nil, vs_0, vs_s, spl_s, spl_0, spl_n, dr_s, dr_0, tk_s, tk_0, e_bxI, e_fac, e_facA, e_ldcA, e_ldcL, e_ldcF, okE_agg, ck_I, ck_B, ck_ints, ck_lists, ck_arr, ck_ptr, ck_cptr, ck_fn, all_c, all_n, stV_agg, stV_lists, stV_arr, stV_ptr, stV_cptr, stV_fn, nodL_ints, nodL_lists, nodL_ptr, nodL_cptr, nodL_fn, nodL_arr0, cl_arr, cl_ptr, cl_cptr, cl_fn, cl_lists, okE_arr, okE_fn, okE_ptr, okE_cptr, e_bd0, e_bd1, e_wr, Nat.reduceAdd, Nat.reduceLeDiff, Nat.reduceEqDiff, Nat.add_zero, Bool.and_self, Bool.true_and, Bool.and_true, e_lc0, e_lA0, e_lM0, e_sc0, e_rc0, e_rA0, e_lI0, e_sI0, e_cI0, e_lc1, e_lA1, e_lM1, e_sc1, e_rc1, e_rA1, e_lI1, e_sI1, e_cI1, e_lc2, e_lA2, e_lM2, e_sc2, e_rc2, e_rA2, e_lI2, e_sI2, e_cI2, e_lc3, e_lA3, e_lM3, e_sc3, e_rc3, e_rA3, e_lI3, e_sI3, e_cI3, e_lc4, e_lA4, e_lM4, e_sc4, e_rc4, e_rA4, e_lI4, e_sI4, e_cI4, e_lc5, e_lA5, e_lM5, e_sc5, e_rc5, e_rA5, e_lI5, e_sI5, e_cI5, own0_arr, own0_ints, own0_lists, own0_imm, own0_ptr, own0_cptr, own0_fn, own0_agg, e_appB, e_appB0, ck_sl, own0_sl, stV_sl, nodL_sl, cl_sl, okE_sl, e_mkM, e_mkI, e_mkIm, e_callB, nod_bfn, nod_ifc, nod_map, nodL_ifc, nodL_bfn, nodL_map, cl_ifc, cl_bfn, ck_ifc, ck_bfn, ck_map, stV_ifc, okE_ifc, okE_bfn, nod_arr, nodL_arr, e_addU, e_mulU, e_shrK, e_shlK, e_andK, e_cv64, e_cv32, e_callEG, e_callEY, e_callEB, e_zr, e_nilSl, e_ncP, e_ncC, e_npnP, e_npeP, e_npnC, e_npeC, e_npnN, e_npeN, e_ixAP, e_ldcP, e_ldcS, e_ldcV, e_ldcT, okE_nilP, ck_nilP, okE_nilI, ck_nilI, okE_str, ck_str, e_tlen, e_tix, e_teq, e_tne, e_tadd, e_tb, e_u8lss, e_u8gtr, noV_full, nod_arr, List.length_map, reduceIte, Int.reduceEq, Int.reduceNeg, ne_eq, not_true_eq_false, not_false_eq_true, Bool.not_true, Bool.not_false, Bool.true_or, Bool.or_true, Bool.false_or, Bool.or_false, Bool.and_true, Bool.and_false, Bool.false_and, Bool.not_not, Bool.or_self, List.length_nil, Int.ofNat_zero, Int.cast_ofNat_Int, Int.natCast_zero, beq_self_eq_true, Bool.true_eq_false]; subst hK hQ) | refine Jr.go ?_) | refine sd ?_)
    exact end2 rfl rfl (.keep _ (bel_ints _ _ _)) (fzI _)
  · rw [if_neg he]
    repeat (first | (with_reducible first | refine Ju.go ?_ | (refine Hd.go ?_; intro K Q hK hQ; simp only [nod_imm, Try.underlying29, e_neq, he, decide_false, Bool.not_false, List.getD_cons_succ, List.getD_cons_zero, e_cond, if_true]; subst hK hQ) | refine Jr.go ?_) | refine sd ?_)
    exact end2 rfl rfl (.full [] (bel_ints _ [] .full)) (fzI _)
end Go.Proofs.Ytgodfjbmblghnaa


set_option linter.unusedVariables false
set_option linter.unusedSimpArgs false
set_option linter.unnecessarySimpa false
set_option maxRecDepth 20000
set_option maxHeartbeats 2000000
namespace Go.Proofs.Ytgodfjbmblghnaa
open Go Go.Ab Go.Proofs
attribute [local congr] g_bin g_nilS g_nilP g_un g_ext g_bx g_fa g_ld g_st g_ix g_ixA g_slc g_mk g_bs g_bd g_nc g_cv g_len g_lenT g_app g_appB g_cpy g_mm g_call g_callG g_calm g_calmG g_range g_res g_pick g_cond g_loop g_Jv g_eqS g_eqP g_fd g_ixT g_ta g_lkp g_upd g_mkM g_appS g_inv g_callE g_callEG g_invE g_zr g_wr
def usF : Nat → Sy → Int → Int → Int → Int → Bool
  | 0, _, _, _, _, _ => false
  | f + 1, s, n, t, u, r => (decide (t = u) && decide (ruI (s.se.getD t.toNat []) n = r)) || (ruOf s n t).p.any fun p => (decide (p.k = 3) && usF f s (n.tdiv (ruOf s n t).d) p.s u r) || (decide (p.k = 4) && decide (n.tmod (ruOf s n t).d ≠ 0) && usF f s (n.tmod (ruOf s n t).d) p.s u r)
theorem any_hit {α : Type} (l : List α) (d : α) (p : α → Bool) {i : Nat} (h : i < l.length) (hp : p (l.getD i d) = true) : l.any p = true := List.any_eq_true.2 ⟨_, getD_memA l d h, hp⟩
theorem any_take {α : Type} (l : List α) (d : α) (p : α → Bool) {i : Nat} (h : i < l.length) : (l.take (i + 1)).any p = ((l.take i).any p || p (l.getD i d)) := by rw [take_snocA l d h, any_snoc]
theorem c64 (s : Sy) (sm : Sm s) (hok : okSy s = true) (u r : Int) : ∀ (f : Nat) (n t g k : Int) (H : Hp), n.toNat < f → 0 ≤ n → n ≤ 1000000000000 → 0 ≤ t → t < s.se.length → Ret Try.prog 64 [syV s, asV n t g k, I u, I r] H (B (usF f s n t u r)) H := by
  have h2 := sm.se
  intro f
  induction f with
  | zero => intro n t g k H hf; omega
  | succ f ih =>
    intro n t g k H hf hn hn2 ht0 ht1
    have ru := ruOk sm hok hn ht0 ht1
    have a1 := ru.i0
    have a2 := ru.i1
    have a5 := ru.pl
    have hpk := ru.p
    have hdv := fun h => ru_div ru hn h
    have eU : usF (f + 1) s n t u r = ((decide (t = u) && decide (ruI (s.se.getD t.toNat []) n = r)) || (ruOf s n t).p.any fun p => (decide (p.k = 3) && usF f s (n.tdiv (ruOf s n t).d) p.s u r) || (decide (p.k = 4) && decide (n.tmod (ruOf s n t).d ≠ 0) && usF f s (n.tmod (ruOf s n t).d) p.s u r)) := rfl
    rw [eU]
    have eR : (s.se.getD t.toNat []).getD (ruI (s.se.getD t.toNat []) n).toNat default = ruOf s n t := rfl
    refine mk64 _ _ _ _ rfl (Nat.le_refl _) (.inl rfl) ?_
    simp only [vc64, real]
    repeat (first | (with_reducible first | refine Ju.go ?_ | (refine Hd.go ?_; intro K Q hK hQ; simp only [nod_agg, List.map_cons, nodL_imm, nodL_arr, nd_no, List.map_nil, e_bxI, okE_agg, lv_cons, List.length_nil, Nat.zero_add, Nat.reduceAdd, all_c, ck_I, ck_arr, all_n, Bool.and_self, and_true, true_and, nod_cptr, e_ldcA, e_fac, Nat.reduceLeDiff, List.getD_cons_succ, List.getD_cons_zero, e_ldc, nod_imm]; subst hK hQ) | refine Jr.go ?_) | refine sd ?_)
    refine call_of (c77 s t n _ ht0 ht1 ru.ne ru.len) ?_
    clear ru eU
    cases hc : (decide (t = u) && decide (ruI (s.se.getD t.toNat []) n = r))
    · repeat (first | (with_reducible first | refine Ju.go ?_ | (refine Hd.go ?_; intro K Q hK hQ; simp only [nod_cptr, e_fac, Nat.reduceAdd, lv_cons, List.length_nil, Nat.zero_add, Nat.reduceLeDiff, List.getD_cons_succ, List.getD_cons_zero, true_and, e_ldc, nod_imm, Try.underlying3, e_eql, e_gT, j_and', hc, j_one, e_cond, Bool.false_eq_true, if_false, e_facA, dr_0, tk_s, tk_0, e_ldcV, nod_arr, nd_no, ix_se, ht0, ht1, ix_nu, a1, a2, eR, e_ldcA, nod_agg, List.map_cons, nodL_imm, nodL_arr, List.map_nil, e_bxI, okE_agg, all_c, ck_I, ck_arr, all_n, Bool.and_self, and_true, e_lenA, List.length_map]; subst hK hQ) | refine Jr.go ?_) | refine sd ?_)
      clear eR hc
      generalize ruOf s n t = q at *
      rw [Bool.false_or]
      generalize hg : (fun p : Pi => (decide (p.k = 3) && usF f s (n.tdiv q.d) p.s u r) || (decide (p.k = 4) && decide (n.tmod q.d ≠ 0) && usF f s (n.tmod q.d) p.s u r)) = g'
      have hgp : ∀ p, g' p = ((decide (p.k = 3) && usF f s (n.tdiv q.d) p.s u r) || (decide (p.k = 4) && decide (n.tmod q.d ≠ 0) && usF f s (n.tmod q.d) p.s u r)) := fun p => by rw [← hg]
      clear hg
      refine loop_of (fun i : Nat => i ≤ q.p.length ∧ (q.p.take i).any g' = false) (fun i => [I u, I r, .cptr (syV s), .cptr (asV n t g k), .cptr (nuV q), .arr (q.p.map piV) .no, I q.p.length, I i]) (fun _ => H) (fun i => q.p.length - i) 0 ⟨Nat.zero_le _, rfl⟩ rfl rfl ?_
      intro i ⟨hi, hp⟩
      repeat (first | (with_reducible first | refine Ju.go ?_ | (refine Hd.go ?_; intro K Q hK hQ; simp only [List.getD_cons_succ, List.getD_cons_zero, nod_imm, Try.underlying3, e_lss, e_cond, decide_eq_true_eq]; subst hK hQ) | refine Jr.go ?_) | refine sd ?_)
      by_cases hlt : i < q.p.length
      · have d : (i : Int) < q.p.length := by omega
        have hm := hpk _ (getD_memA q.p default hlt)
        have hh := any_hit q.p default g' hlt
        have hn' := any_take q.p default g' hlt
        have hgp := hgp (q.p.getD i default)
        repeat (first | (with_reducible first | refine Ju.go ?_ | (refine Hd.go ?_; intro K Q hK hQ; simp only [d, if_true, List.getD_cons_succ, List.getD_cons_zero, nod_arr, nd_no, nod_imm, ix_pi, Int.toNat_natCast, true_and, nod_cptr, e_ldcA, lv_cons, List.length_nil, Nat.zero_add, Nat.reduceAdd, nod_agg, List.map_cons, nodL_imm, List.map_nil, e_bxI, okE_agg, all_c, ck_I, all_n, Bool.and_self, and_true, e_fac, Nat.reduceLeDiff, e_ldc, Try.underlying57, e_eql, Try.underlying3, nod_nod, e_bd1, e_bd0, okE_I, cl_imm, e_quo, ne_eq, spl_0, spl_n, spl_s, own0_imm, nodL_arr, e_gT, j_tl, decide_eq_true_eq, j_side]; subst hK hQ) | refine Jr.go ?_) | refine sd ?_)
        generalize q.p.getD i default = p at *
        obtain ⟨hk, hpt, hps, hdz⟩ := okPi_k hm
        by_cases k3 : p.k = 3
        · have z : q.d ≠ 0 := fun h => by have := hdz (by omega); rw [h] at this; cases this
          obtain ⟨d1, d2, d3, d4, d5⟩ := hdv z
          obtain ⟨s0, s1⟩ := hps (.inl k3)
          have r1 : R64 (n.tdiv q.d) := by unfold R64; omega
          rw [decide_eq_true k3, Bool.true_and, decide_eq_false (show ¬ p.k = 4 by omega), Bool.false_and, Bool.false_and, Bool.or_false] at hgp
          have k4 : ¬ p.k = 4 := by omega
          repeat (first | (with_reducible first | refine Ju.go ?_ | (refine Hd.go ?_; intro K Q hK hQ; simp only [k3, decide_true, cond_true]; subst hK hQ) | refine Jr.go ?_) | refine sd ?_)
          refine call_ofD (ih (n.tdiv q.d) p.s _ _ _ (by omega) (by omega) (by omega) s0 s1) ?_
          rw [← hgp]
          cases hq : g' p
          · repeat (first | (with_reducible first | refine Ju.go ?_ | (refine Hd.go ?_; intro K Q hK hQ; simp only [nod_imm, List.getD_cons_zero, List.getD_cons_succ, k3, e_cond, Bool.false_eq_true, if_false, nod_cptr, e_fac, Nat.zero_add, lv_cons, List.length_nil, Nat.reduceAdd, Nat.reduceLeDiff, true_and, e_ldc, Try.underlying57, e_eql, Int.reduceEq, decide_false, Try.underlying3, e_rem, ne_eq, e_neq, e_gT, cond_false, j_one, nod_nod, e_bd1, e_bd0, okE_I, cl_imm, spl_0, spl_n, spl_s, own0_imm, nod_agg, List.map_cons, nodL_imm, List.map_nil, e_ldcA, nodL_arr, nd_no, e_add]; subst hK hQ) | refine Jr.go ?_) | refine sd ?_)
            exact ⟨i + 1, ⟨by omega, by rw [hn', hp, hq]; rfl⟩, rfl, rfl, by omega⟩
          · repeat (first | (with_reducible first | refine Ju.go ?_ | (refine Hd.go ?_; intro K Q hK hQ; simp only [nod_imm, List.getD_cons_zero, List.getD_cons_succ, e_cond, if_true]; subst hK hQ) | refine Jr.go ?_) | refine sd ?_)
            rw [hh hq]
            exact end1 (fzI _)
        · rw [decide_eq_false k3, Bool.false_and, Bool.false_or] at hgp
          by_cases k4 : p.k = 4
          · have z : q.d ≠ 0 := fun h => by have := hdz (by omega); rw [h] at this; cases this
            obtain ⟨d1, d2, d3, d4, d5⟩ := hdv z
            obtain ⟨s0, s1⟩ := hps (.inr k4)
            rw [decide_eq_true k4, Bool.true_and] at hgp
            by_cases he : n.tmod q.d = 0
            · rw [decide_eq_false (fun h => h he), Bool.false_and] at hgp
              repeat (first | (with_reducible first | refine Ju.go ?_ | (refine Hd.go ?_; intro K Q hK hQ; simp only [k4, Int.reduceEq, decide_false, cond_false, j_one, List.getD_cons_zero, List.getD_cons_succ, nod_imm, e_cond, Bool.false_eq_true, if_false, nod_cptr, e_fac, Nat.zero_add, lv_cons, List.length_nil, Nat.reduceAdd, Nat.reduceLeDiff, true_and, e_ldc, Try.underlying57, e_eql, decide_true, Try.underlying3, e_rem, ne_eq, z, not_false_eq_true, he, e_neq, Bool.not_true, e_gT, cond_true, nod_nod, e_bd1, e_bd0, okE_I, cl_imm, spl_0, spl_n, spl_s, own0_imm, nod_agg, List.map_cons, nodL_imm, List.map_nil, e_ldcA, nodL_arr, nd_no, e_add]; subst hK hQ) | refine Jr.go ?_) | refine sd ?_)
              exact ⟨i + 1, ⟨by omega, by rw [hn', hp, hgp]; rfl⟩, rfl, rfl, by omega⟩
            · rw [decide_eq_true he, Bool.true_and] at hgp
              repeat (first | (with_reducible first | refine Ju.go ?_ | (refine Hd.go ?_; intro K Q hK hQ; simp only [k4, Int.reduceEq, decide_false, cond_false, j_one, List.getD_cons_zero, List.getD_cons_succ, nod_imm, e_cond, Bool.false_eq_true, if_false, nod_cptr, e_fac, Nat.zero_add, lv_cons, List.length_nil, Nat.reduceAdd, Nat.reduceLeDiff, true_and, e_ldc, Try.underlying57, e_eql, decide_true, Try.underlying3, e_rem, ne_eq, z, not_false_eq_true, e_neq, he, Bool.not_false, e_gT, cond_true, nod_nod, e_bd1, e_bd0, okE_I, cl_imm, spl_0, spl_n, spl_s, own0_imm, nod_agg, List.map_cons, nodL_imm, List.map_nil, e_ldcA, nodL_arr, nd_no]; subst hK hQ) | refine Jr.go ?_) | refine sd ?_)
              refine call_ofD (ih (n.tmod q.d) p.s _ _ _ (by omega) (by omega) (by omega) s0 s1) ?_
              rw [← hgp]
              cases hq : g' p
              · repeat (first | (with_reducible first | refine Ju.go ?_ | (refine Hd.go ?_; intro K Q hK hQ; simp only [nod_imm, List.getD_cons_zero, List.getD_cons_succ, e_cond, Bool.false_eq_true, if_false, Try.underlying3, e_add]; subst hK hQ) | refine Jr.go ?_) | refine sd ?_)
                exact ⟨i + 1, ⟨by omega, by rw [hn', hp, hq]; rfl⟩, rfl, rfl, by omega⟩
              · repeat (first | (with_reducible first | refine Ju.go ?_ | (refine Hd.go ?_; intro K Q hK hQ; simp only [nod_imm, List.getD_cons_zero, List.getD_cons_succ, e_cond, if_true]; subst hK hQ) | refine Jr.go ?_) | refine sd ?_)
                rw [hh hq]
                exact end1 (fzI _)
          · rw [decide_eq_false k4, Bool.false_and, Bool.false_and] at hgp
            repeat (first | (with_reducible first | refine Ju.go ?_ | (refine Hd.go ?_; intro K Q hK hQ; simp only [k3, decide_false, cond_false, j_one, List.getD_cons_zero, List.getD_cons_succ, nod_imm, e_cond, Bool.false_eq_true, if_false, nod_cptr, e_fac, Nat.zero_add, lv_cons, List.length_nil, Nat.reduceAdd, Nat.reduceLeDiff, true_and, e_ldc, Try.underlying57, e_eql, k4, Try.underlying3, e_rem, ne_eq, e_neq, e_gT, nod_nod, e_bd1, e_bd0, okE_I, cl_imm, spl_0, spl_n, spl_s, own0_imm, nod_agg, List.map_cons, nodL_imm, List.map_nil, e_ldcA, nodL_arr, nd_no, e_add]; subst hK hQ) | refine Jr.go ?_) | refine sd ?_)
            exact ⟨i + 1, ⟨by omega, by rw [hn', hp, hgp]; rfl⟩, rfl, rfl, by omega⟩
      · have d : ¬ (i : Int) < q.p.length := by omega
        repeat (first | (with_reducible first | refine Ju.go ?_ | (refine Hd.go ?_; intro K Q hK hQ; simp only [d, if_false]; subst hK hQ) | refine Jr.go ?_) | refine sd ?_)
        rw [List.take_of_length_le (by omega)] at hp
        rw [hp]
        exact end1 (fzI _)
    · repeat (first | (with_reducible first | refine Ju.go ?_ | (refine Hd.go ?_; intro K Q hK hQ; simp only [nod_cptr, e_fac, Nat.reduceAdd, lv_cons, List.length_nil, Nat.zero_add, Nat.reduceLeDiff, List.getD_cons_succ, List.getD_cons_zero, true_and, e_ldc, nod_imm, Try.underlying3, e_eql, e_gT, j_and', hc, j_one, e_cond, if_true]; subst hK hQ) | refine Jr.go ?_) | refine sd ?_)
      rw [Bool.true_or]
      exact end1 (fzI _)
def isU (s : Sy) (t u r m : Int) : Bool := usF (m.toNat + 1) s m t u r
theorem c63 (s : Sy) (n t g k u r m : Int) (H : Hp) (sm : Sm s) (hok : okAsk s m t g k = true) : Ret Try.prog 63 [I m, .cptr (syV s), .cptr (asV n t g k), .cptr (I u), .cptr (I r)] H (.tup [I m, B (isU s t u r m)]) H := by
  obtain ⟨h1, h2, h3, h4, h5, h6, h7, h8, h9⟩ := okAsk_parts hok
  refine mk63 _ _ _ _ _ rfl (Nat.le_refl _) (.inl rfl) ?_
  simp only [vc63, real]
  repeat (first | (with_reducible first | refine Ju.go ?_ | (refine Hd.go ?_; intro K Q hK hQ; simp only [nod_cptr, e_ldcA, lv_cons, List.length_nil, Nat.zero_add, Nat.reduceAdd, true_and, nod_agg, List.map_cons, nodL_imm, nodL_arr, nd_no, List.map_nil, e_bd1, okE_agg, all_c, ck_I, ck_arr, all_n, Bool.and_self, and_true, Nat.reduceLeDiff, cl_agg, spl_0, spl_n, e_bd0, nod_imm]; subst hK hQ) | refine Jr.go ?_) | refine sd ?_)
  refine calm_of (fun H => c60 n t g k m H) ?_
  repeat (first | (with_reducible first | refine Ju.go ?_ | (refine Hd.go ?_; intro K Q hK hQ; simp only [nod_cptr, e_ldc, nod_agg, List.map_cons, nodL_imm, nodL_arr, nd_no, List.map_nil, nod_imm]; subst hK hQ) | refine Jr.go ?_) | refine sd ?_)
  refine call_ofD (c64 s sm h1 u r (m.toNat + 1) m t g k _ (by omega) h2 (by omega) h5 h6) ?_
  repeat (first | (with_reducible first | refine Ju.go ?_ | (refine Hd.go ?_; intro K Q hK hQ; simp only [Try.underlying3, Try.underlying4, Try.underlying5, Try.underlying9, Try.underlying29, Try.underlying57, Try.underlying55, j_one, j_side, j_tl, j_fl, nod_nod, nod_imm, nod_ints, nd_no, nd_own, nd_full, nd_fO, oF_ap, oF_succ, nod_sl, nod_ptr, nod_cptr, nod_fn, nod_junk, nodL_imm, nod_agg, nod_tup, nod2_imm, nod2_agg, cl_imm, cl_ints, cl_agg, e_add, e_sub, e_mul, e_quo, e_rem, e_eql, e_neq, e_lss, e_leq, e_gtr, e_geq, e_beq, e_bne, e_neg, e_not, e_pick, e_cond, e_gT, e_gF, e_len, e_lenA, e_lenS, e_ix, e_ixS, e_ldc, e_ldci, e_fa, rep_cl, rep_I, e_bx, okE_I, okE_B, okE_E8, okE_ints, stV_imm, stV_ints, j_and', j_or', List.getD_cons_zero, List.getD_cons_succ, List.map_cons, List.map_nil, decide_eq_true_eq, Int.toNat_natCast, Nat.mul_one, Nat.zero_add, true_and, and_true, List.length_map, Bool.not_eq_true', decide_eq_false_iff_not, nod_lists, e_lenL, e_ixL, okE_lists, bs1, bs1L, bs2L, e_app, e_appL, e_app0, e_app0L, e_slcLo, e_slcHi, e_slcLH, e_slcHH, e_slcLHH, e_callG, e_callY, e_calmG, e_slS0, e_slSLo, e_slSHi, e_slSLH, e_slSHH, e_slSLHH, e_max2, e_min2, e_max3, e_x20, e_x21, e_x30, e_x31, e_x32, nod2_ints, nod2_lists, rep_fl, bs0, e_nilE, if_true, if_false, cond_true, cond_false, decide_true, decide_false, eq_self, Bool.false_eq_true, false_implies, true_implies, ap_own, ap_full, e_slcLoL, e_slcHiL, e_slcLHL, hp_assoc, hp_cons, hp_nil, hp_len, hp_len_cons, hp_len_nil, lv_cons, lv_nil, vs_0, vs_s, spl_s, spl_0, spl_n, dr_s, dr_0, tk_s, tk_0, e_bxI, e_fac, e_facA, e_ldcA, e_ldcL, e_ldcF, okE_agg, ck_I, ck_B, ck_ints, ck_lists, ck_arr, ck_ptr, ck_cptr, ck_fn, all_c, all_n, stV_agg, stV_lists, stV_arr, stV_ptr, stV_cptr, stV_fn, nodL_ints, nodL_lists, nodL_ptr, nodL_cptr, nodL_fn, nodL_arr0, cl_arr, cl_ptr, cl_cptr, cl_fn, cl_lists, okE_arr, okE_fn, okE_ptr, okE_cptr, e_bd0, e_bd1, e_wr, Nat.reduceAdd, Nat.reduceLeDiff, Nat.reduceEqDiff, Nat.add_zero, Bool.and_self, Bool.true_and, Bool.and_true, e_lc0, e_lA0, e_lM0, e_sc0, e_rc0, e_rA0, e_lI0, e_sI0, e_cI0, e_lc1, e_lA1, e_lM1, e_sc1, e_rc1, e_rA1, e_lI1, e_sI1, e_cI1, e_lc2, e_lA2, e_lM2, e_sc2, e_rc2, e_rA2, e_lI2, e_sI2, e_cI2, e_lc3, e_lA3, e_lM3, e_sc3, e_rc3, e_rA3, e_lI3, e_sI3, e_cI3, e_lc4, e_lA4, e_lM4, e_sc4, e_rc4, e_rA4, e_lI4, e_sI4, e_cI4, e_lc5, e_lA5, e_lM5, e_sc5, e_rc5, e_rA5, e_lI5, e_sI5, e_cI5, own0_arr, own0_ints, own0_lists, own0_imm, own0_ptr, own0_cptr, own0_fn, own0_agg, e_appB, e_appB0, ck_sl, own0_sl, stV_sl, nodL_sl, cl_sl, okE_sl, e_mkM, e_mkI, e_mkIm, e_callB, nod_bfn, nod_ifc, nod_map, nodL_ifc, nodL_bfn, nodL_map, cl_ifc, cl_bfn, ck_ifc, ck_bfn, ck_map, stV_ifc, okE_ifc, okE_bfn, nod_arr, nodL_arr, e_addU, e_mulU, e_shrK, e_shlK, e_andK, e_cv64, e_cv32, e_callEG, e_callEY, e_callEB, e_zr, e_nilSl, e_ncP, e_ncC, e_npnP, e_npeP, e_npnC, e_npeC, e_npnN, e_npeN, e_ixAP, e_ldcP, e_ldcS, e_ldcV, e_ldcT, okE_nilP, ck_nilP, okE_nilI, ck_nilI, okE_str, ck_str, e_tlen, e_tix, e_teq, e_tne, e_tadd, e_tb, e_u8lss, e_u8gtr, noV_full, nod_arr, List.length_map, reduceIte, Int.reduceEq, Int.reduceNeg, ne_eq, not_true_eq_false, not_false_eq_true, Bool.not_true, Bool.not_false, Bool.true_or, Bool.or_true, Bool.false_or, Bool.or_false, Bool.and_true, Bool.and_false, Bool.false_and, Bool.not_not, Bool.or_self, List.length_nil, Int.ofNat_zero, Int.cast_ofNat_Int, Int.natCast_zero, beq_self_eq_true, Bool.true_eq_false]; subst hK hQ) | refine Jr.go ?_) | refine sd ?_)
  exact end2 rfl rfl (fzI _) (fzI _)
def inS (s : Sy) (u r : Int) : Bool := inB u 0 (s.se.length - 1) && inB r 0 ((s.se.getD u.toNat []).length - 1)
def usE (s : Sy) (n t g k u r : Int) : Int := if scE [s] n t g k = 2 ∨ inS s u r = false then 2 else scE [s] n t g k
def usR (s : Sy) (n t g k u r : Int) : List Int := if usE s n t g k u r = 0 then fil (isU s t u r) n else []
theorem c32 (s : Sy) (n t g k u r : Int) (H : Hp) (sm : Sm s) : Ret Try.prog 32 [syV s, asV n t g k, I u, I r] H (.tup [ints (usR s n t g k u r) .no, I (usE s n t g k u r)]) H := by
  have hse := sm.se
  have ef : retF (.tup [ints [] .no, I 2]) H [.arr [] .full, I 2] H := end2 rfl rfl (.full [] (bel_ints _ [] .full)) (fzI _)
  refine mk32 _ _ _ _ rfl (Nat.le_refl _) (.inl rfl) ?_
  simp only [vc32, real]
  repeat (first | (with_reducible first | refine Ju.go ?_ | (refine Hd.go ?_; intro K Q hK hQ; simp only [nod_agg, List.map_cons, nodL_imm, nodL_arr, nd_no, List.map_nil, e_bxI, okE_agg, lv_cons, List.length_nil, Nat.zero_add, Nat.reduceAdd, all_c, ck_I, ck_arr, all_n, Bool.and_self, and_true, true_and, nod_imm, okE_I, nod_cptr, e_ldcA, bs1Y, nod_arr, nd_full]; subst hK hQ) | refine Jr.go ?_) | refine sd ?_)
  refine call_of (c57 [s] n t g k _ (fun x hx => by simp only [List.mem_singleton] at hx; subst hx; exact sm) (by simp)) ?_
  by_cases e2 : scE [s] n t g k = 2
  · have e : usE s n t g k u r = 2 := if_pos (.inl e2)
    have l : usR s n t g k u r = [] := if_neg (by rw [e]; decide)
    rw [e, l, e2]
    repeat (first | (with_reducible first | refine Ju.go ?_ | (refine Hd.go ?_; intro K Q hK hQ; simp only [nod_imm, Try.underlying29, e_eql, decide_true, List.getD_cons_succ, List.getD_cons_zero, e_cond, if_true]; subst hK hQ) | refine Jr.go ?_) | refine sd ?_)
    exact ef
  · have hE : usE s n t g k u r = if inS s u r = false then 2 else scE [s] n t g k := by
      unfold usE
      by_cases h : inS s u r = false
      · rw [if_pos (.inr h), if_pos h]
      · rw [if_neg (fun h' => by rcases h' with h' | h'; exact e2 h'; exact h h'), if_neg h]
    repeat (first | (with_reducible first | refine Ju.go ?_ | (refine Hd.go ?_; intro K Q hK hQ; simp only [nod_imm, Try.underlying29, e_eql, e2, decide_false, List.getD_cons_succ, List.getD_cons_zero, e_cond, Bool.false_eq_true, if_false, nod_cptr, e_ldc, e_fac, Nat.reduceAdd, lv_cons, List.length_nil, Nat.zero_add, Nat.reduceLeDiff, true_and, e_ldcV, nod_arr, nd_no, e_lenA, List.length_map, Try.underlying3, e_sub]; subst hK hQ) | refine Jr.go ?_) | refine sd ?_)
    refine call_ofD (c45 _ _ _ _) ?_
    cases hu : inB u 0 (s.se.length - 1)
    · have hi : inS s u r = false := by unfold inS; rw [hu]; rfl
      rw [if_pos hi] at hE
      have l : usR s n t g k u r = [] := if_neg (by rw [hE]; decide)
      rw [hE, l]
      repeat (first | (with_reducible first | refine Ju.go ?_ | (refine Hd.go ?_; intro K Q hK hQ; simp only [nod_imm, e_not, Bool.not_false, List.getD_cons_succ, List.getD_cons_zero, nod_cptr, Try.underlying3, e_ldc, e_fac, Nat.reduceAdd, lv_cons, List.length_nil, Nat.zero_add, Nat.reduceLeDiff, e_ldcV, nod_arr, nd_no, true_and, e_gF, cond_true, j_one, e_cond, if_true]; subst hK hQ) | refine Jr.go ?_) | refine sd ?_)
      exact ef
    · have hu' := inB_iff.1 hu
      have hlen := (sm.nu _ (getD_memA s.se [] (show u.toNat < s.se.length by omega))).1
      have u0 : 0 ≤ u := by omega
      have u1 : u < s.se.length := by omega
      repeat (first | (with_reducible first | refine Ju.go ?_ | (refine Hd.go ?_; intro K Q hK hQ; simp only [nod_imm, e_not, Bool.not_true, List.getD_cons_succ, List.getD_cons_zero, nod_cptr, Try.underlying3, e_ldc, e_fac, Nat.reduceAdd, lv_cons, List.length_nil, Nat.zero_add, Nat.reduceLeDiff, e_ldcV, nod_arr, nd_no, ix_se, u0, u1, e_lenA, List.length_map, e_sub, true_and, e_gF, cond_false, j_side]; subst hK hQ) | refine Jr.go ?_) | refine sd ?_)
      refine call_ofD (c45 _ _ _ _) ?_
      cases hr : inB r 0 ((s.se.getD u.toNat []).length - 1)
      · have hi : inS s u r = false := by unfold inS; rw [hu, hr]; rfl
        rw [if_pos hi] at hE
        have l : usR s n t g k u r = [] := if_neg (by rw [hE]; decide)
        rw [hE, l]
        repeat (first | (with_reducible first | refine Ju.go ?_ | (refine Hd.go ?_; intro K Q hK hQ; simp only [nod_imm, e_not, Bool.not_false, List.getD_cons_zero, List.getD_cons_succ, e_cond, if_true]; subst hK hQ) | refine Jr.go ?_) | refine sd ?_)
        exact ef
      · have hi : inS s u r = true := by unfold inS; rw [hu, hr]; rfl
        rw [if_neg (by rw [hi]; decide)] at hE
        by_cases e0 : scE [s] n t g k = 0
        · obtain ⟨ho, n0, n2⟩ := scE_0 e0
          rw [e0] at hE
          have l : usR s n t g k u r = fil (isU s t u r) n := if_pos hE
          rw [hE, l, e0]
          repeat (first | (with_reducible first | refine Ju.go ?_ | (refine Hd.go ?_; intro K Q hK hQ; simp only [nod_imm, e_not, Bool.not_true, List.getD_cons_zero, List.getD_cons_succ, e_cond, Bool.false_eq_true, if_false, Try.underlying29, e_neq, decide_true, nod_cptr, e_fac, Nat.zero_add, lv_cons, List.length_nil, Nat.reduceAdd, Nat.reduceLeDiff, true_and, e_ldc]; subst hK hQ) | refine Jr.go ?_) | refine sd ?_)
          refine call_of (c58g (isU s t u r) 63 _ n _ n0 n2 fun m H m0 m1 => c63 s n t g k u r m H sm (okAsk_le ho m0 m1)) ?_
          repeat (first | (with_reducible first | refine Ju.go ?_ | (refine Hd.go ?_; intro K Q hK hQ; simp only [Try.underlying3, Try.underlying4, Try.underlying5, Try.underlying9, Try.underlying29, Try.underlying57, Try.underlying55, j_one, j_side, j_tl, j_fl, nod_nod, nod_imm, nod_ints, nd_no, nd_own, nd_full, nd_fO, oF_ap, oF_succ, nod_sl, nod_ptr, nod_cptr, nod_fn, nod_junk, nodL_imm, nod_agg, nod_tup, nod2_imm, nod2_agg, cl_imm, cl_ints, cl_agg, e_add, e_sub, e_mul, e_quo, e_rem, e_eql, e_neq, e_lss, e_leq, e_gtr, e_geq, e_beq, e_bne, e_neg, e_not, e_pick, e_cond, e_gT, e_gF, e_len, e_lenA, e_lenS, e_ix, e_ixS, e_ldc, e_ldci, e_fa, rep_cl, rep_I, e_bx, okE_I, okE_B, okE_E8, okE_ints, stV_imm, stV_ints, j_and', j_or', List.getD_cons_zero, List.getD_cons_succ, List.map_cons, List.map_nil, decide_eq_true_eq, Int.toNat_natCast, Nat.mul_one, Nat.zero_add, true_and, and_true, List.length_map, Bool.not_eq_true', decide_eq_false_iff_not, nod_lists, e_lenL, e_ixL, okE_lists, bs1, bs1L, bs2L, e_app, e_appL, e_app0, e_app0L, e_slcLo, e_slcHi, e_slcLH, e_slcHH, e_slcLHH, e_callG, e_callY, e_calmG, e_slS0, e_slSLo, e_slSHi, e_slSLH, e_slSHH, e_slSLHH, e_max2, e_min2, e_max3, e_x20, e_x21, e_x30, e_x31, e_x32, nod2_ints, nod2_lists, rep_fl, bs0, e_nilE, if_true, if_false, cond_true, cond_false, decide_true, decide_false, eq_self, Bool.false_eq_true, false_implies, true_implies, ap_own, ap_full, e_slcLoL, e_slcHiL, e_slcLHL, hp_assoc, hp_cons, hp_nil, hp_len, hp_len_cons, hp_len_nil, lv_cons, lv_nil, vs_0, vs_s, spl_s, spl_0, spl_n, dr_s, dr_0, tk_s, tk_0, e_bxI, e_fac, e_facA, e_ldcA, e_ldcL, e_ldcF, okE_agg, ck_I, ck_B, ck_ints, ck_lists, ck_arr, ck_ptr, ck_cptr, ck_fn, all_c, all_n, stV_agg, stV_lists, stV_arr, stV_ptr, stV_cptr, stV_fn, nodL_ints, nodL_lists, nodL_ptr, nodL_cptr, nodL_fn, nodL_arr0, cl_arr, cl_ptr, cl_cptr, cl_fn, cl_lists, okE_arr, okE_fn, okE_ptr, okE_cptr, e_bd0, e_bd1, e_wr, Nat.reduceAdd, Nat.reduceLeDiff, Nat.reduceEqDiff, Nat.add_zero, Bool.and_self, Bool.true_and, Bool.and_true, e_lc0, e_lA0, e_lM0, e_sc0, e_rc0, e_rA0, e_lI0, e_sI0, e_cI0, e_lc1, e_lA1, e_lM1, e_sc1, e_rc1, e_rA1, e_lI1, e_sI1, e_cI1, e_lc2, e_lA2, e_lM2, e_sc2, e_rc2, e_rA2, e_lI2, e_sI2, e_cI2, e_lc3, e_lA3, e_lM3, e_sc3, e_rc3, e_rA3, e_lI3, e_sI3, e_cI3, e_lc4, e_lA4, e_lM4, e_sc4, e_rc4, e_rA4, e_lI4, e_sI4, e_cI4, e_lc5, e_lA5, e_lM5, e_sc5, e_rc5, e_rA5, e_lI5, e_sI5, e_cI5, own0_arr, own0_ints, own0_lists, own0_imm, own0_ptr, own0_cptr, own0_fn, own0_agg, e_appB, e_appB0, ck_sl, own0_sl, stV_sl, nodL_sl, cl_sl, okE_sl, e_mkM, e_mkI, e_mkIm, e_callB, nod_bfn, nod_ifc, nod_map, nodL_ifc, nodL_bfn, nodL_map, cl_ifc, cl_bfn, ck_ifc, ck_bfn, ck_map, stV_ifc, okE_ifc, okE_bfn, nod_arr, nodL_arr, e_addU, e_mulU, e_shrK, e_shlK, e_andK, e_cv64, e_cv32, e_callEG, e_callEY, e_callEB, e_zr, e_nilSl, e_ncP, e_ncC, e_npnP, e_npeP, e_npnC, e_npeC, e_npnN, e_npeN, e_ixAP, e_ldcP, e_ldcS, e_ldcV, e_ldcT, okE_nilP, ck_nilP, okE_nilI, ck_nilI, okE_str, ck_str, e_tlen, e_tix, e_teq, e_tne, e_tadd, e_tb, e_u8lss, e_u8gtr, noV_full, nod_arr, List.length_map, reduceIte, Int.reduceEq, Int.reduceNeg, ne_eq, not_true_eq_false, not_false_eq_true, Bool.not_true, Bool.not_false, Bool.true_or, Bool.or_true, Bool.false_or, Bool.or_false, Bool.and_true, Bool.and_false, Bool.false_and, Bool.not_not, Bool.or_self, List.length_nil, Int.ofNat_zero, Int.cast_ofNat_Int, Int.natCast_zero, beq_self_eq_true, Bool.true_eq_false]; subst hK hQ) | refine Jr.go ?_) | refine sd ?_)
          exact end2 rfl rfl (.keep _ (bel_ints _ _ _)) (fzI _)
        · have l : usR s n t g k u r = [] := if_neg (by rw [hE]; exact e0)
          rw [hE, l]
          repeat (first | (with_reducible first | refine Ju.go ?_ | (refine Hd.go ?_; intro K Q hK hQ; simp only [nod_imm, e_not, Bool.not_true, List.getD_cons_zero, List.getD_cons_succ, e_cond, Bool.false_eq_true, if_false, Try.underlying29, e_neq, e0, decide_false, Bool.not_false, if_true]; subst hK hQ) | refine Jr.go ?_) | refine sd ?_)
          exact end2 rfl rfl (.full [] (bel_ints _ [] .full)) (fzI _)
end Go.Proofs.Ytgodfjbmblghnaa


set_option linter.unusedVariables false
set_option linter.unusedSimpArgs false
set_option linter.unnecessarySimpa false
set_option maxRecDepth 20000
set_option maxHeartbeats 2000000
namespace Go.Proofs.Ytgodfjbmblghnaa
open Go Go.Ab Go.Proofs
attribute [local congr] g_bin g_nilS g_nilP g_un g_ext g_bx g_fa g_ld g_st g_ix g_ixA g_slc g_mk g_bs g_bd g_nc g_cv g_len g_lenT g_app g_appB g_cpy g_mm g_call g_callG g_calm g_calmG g_range g_res g_pick g_cond g_loop g_Jv g_eqS g_eqP g_fd g_ixT g_ta g_lkp g_upd g_mkM g_appS g_inv g_callE g_callEG g_invE g_zr g_wr
theorem Rel.sealedS {σ : Sg} {w : World} {fr : Fr} {tmps : Array Value} {H : Hp} (h : St σ w fr tmps H) {k n s : Nat} {xs : List V} (hk : H[k]? = some (.cells (xs.flatMap V.cl))) (hs : 0 < s) (hx : ∀ x, x ∈ xs → x.cl.length = s ∧ x.Nd) (hn : n = xs.length) {x : Value} (hr : Rel σ w (.sl k 0 n n s) x) :
    Rel (σ.tipAt (σ.ρ k) (xs.flatMap V.cl).length) w (.arr xs .no) x := by
  obtain ⟨hle, -, -⟩ := h.seal hk
  cases hr with
  | sl _ _ _ _ rc _ a hbn hcap hrc ha =>
    obtain ⟨q, rfl, hq, -⟩ := ha
    by_cases hne : xs = []
    · subst hne
      simp only [List.length_nil] at hn
      subst hn
      exact .arr0 _ _ rc (fun h => by cases h) ⟨fun ad h => .inl (by cases h; rfl), fun h => by cases h⟩
    · have hpos : 0 < xs.length := List.length_pos_iff.2 hne
      have hqo := hq (by omega)
      subst q
      obtain ⟨ys, e, hw, hlen, hat⟩ := h.at hk
      refine .arr xs .no (σ.ρ k) 0 n rc s (fun j => ys.getD j undef) hne hn (by omega) (fun h => by cases h) hs hx (fun j c hj => ?_) (fun j c hj => ?_)
      · have h2 := hat.cell _ c hj
        rw [Nat.zero_add] at h2 ⊢
        exact ⟨by rw [σ.tipAt_self]; exact (List.getElem?_eq_some_iff.1 hj).1, h2⟩
      · exact (hat.rel _ c hj).mono hle
theorem setRow_self (w : World) (rb : Nat) {ys : Array Value} {e : TypeId} {q : Nat × Nat} (h : w.heap[rb]? = some (.cells ys e q)) : w.setRow rb ys = w := by
  unfold World.setRow
  have : ∀ f : Obj → Obj, f (.cells ys e q) = .cells ys e q → w.heap.modify rb f = w.heap := fun f hf => by
    refine Array.ext_getElem? fun i => ?_
    rw [Array.getElem?_modify]
    split
    · rename_i hi
      subst hi
      rw [h]
      show some (f (.cells ys e q)) = _
      rw [hf]
    · rfl
  rw [this _ rfl]
theorem St.recell {σ : Sg} {w : World} {fr : Fr} {tmps : Array Value} {H : Hp} (h : St σ w fr tmps H) {b o : Nat} {cs : List V} {c : V} (hb : H[b]? = some (.cells cs)) (hc : ∀ x, Rel σ w (cs.getD o .junk) x → Rel σ w c x) (ho : o < cs.length) (hn : c.Nd) (hleaf : ∀ x rb, ¬ OwnB c x rb) :
    St σ w fr tmps (H.set b (.cells (cs.set o c))) ∧ ∀ rb, Own σ w fr tmps (H.set b (.cells (cs.set o c))) rb → Own σ w fr tmps H rb := by
  obtain ⟨ys, e, h1, h2, h3⟩ := h.heap b _ hb
  have hget : ∀ (j : Nat) (c' : V), (cs.set o c)[j]? = some c' → Rel σ w c' (ys.getD j undef) ∧ (ys.getD j undef).oneCell' = true := fun j c' hj => by
    rw [List.getElem?_set] at hj
    by_cases e : o = j
    · subst e
      rw [if_pos rfl, if_pos ho] at hj
      cases hj
      have := h3 o _ (List.getElem?_eq_getElem ho)
      refine ⟨hc _ ?_, this.2⟩
      rw [List.getD_eq_getElem?_getD, List.getElem?_eq_getElem ho]
      exact this.1
    · rw [if_neg e] at hj
      exact h3 j c' hj
  have hne : ∀ i, i ≠ o → (cs.set o c).getD i .junk = cs.getD i .junk := fun i hi => by
    rw [List.getD_eq_getElem?_getD, List.getD_eq_getElem?_getD, List.getElem?_set_ne (Ne.symm hi)]
  have := h.setRow hb h1 (cs.set o c) ys fr tmps.size 0 (by rw [List.length_set]; exact h2) (Nat.le_refl _) hget h.frame (fun i j rb hw => ⟨rfl, fun hi => by
      subst hi
      obtain ⟨xs, off, n, cap, -, e2, -⟩ := hw
      rw [Array.getD_eq_getD_getElem?, Array.getElem?_eq_none (Nat.le_refl _)] at e2
      cases j <;> cases e2⟩) (fun j rb hw => by
      by_cases hj : j = o
      · subst hj
        exfalso
        rw [List.getD_eq_getElem?_getD, List.getElem?_set_self ho] at hw
        exact hleaf _ _ hw
      · exact .inl ⟨hne j hj, rfl⟩)
  rw [setRow_self w _ h1] at this
  exact ⟨this.1, fun rb hr => Classical.byContradiction fun hno => by
    have hown := this.2.own rb hr (this.1.own_lt hr)
    exact hno hown⟩
theorem St.frz {σ : Sg} {w : World} {fr : Fr} {tmps : Array Value} {H : Hp} (h : St σ w fr tmps H) {k n s b o : Nat} {xs cs : List V} (hk : H[k]? = some (.cells (xs.flatMap V.cl))) (hs : 0 < s) (hx : ∀ x, x ∈ xs → x.cl.length = s ∧ x.Nd) (hn : n = xs.length)
    (hb : H[b]? = some (.cells cs)) (hkb : k ≠ b) (ho : cs[o]? = some (.sl k 0 n n s)) :
    ∃ σ', Le σ w σ' w ∧ St σ' w fr tmps ((H.set k .dead).set b (.cells (cs.set o (.arr xs .no)))) ∧ Tr σ w (Own σ w fr tmps H) σ' w (Own σ' w fr tmps ((H.set k .dead).set b (.cells (cs.set o (.arr xs .no))))) ∧ ∀ x, Rel σ w (.sl k 0 n n s) x → Rel σ' w (.arr xs .no) x := by
  obtain ⟨l1, s1, t1⟩ := h.seal hk
  have hb' : (H.set k .dead)[b]? = some (.cells cs) := by rw [List.getElem?_set_ne hkb]; exact hb
  have hol := (List.getElem?_eq_some_iff.1 ho).1
  have hr : ∀ x, Rel σ w (.sl k 0 n n s) x → Rel (σ.tipAt (σ.ρ k) (xs.flatMap V.cl).length) w (.arr xs .no) x := fun x hx' => Rel.sealedS h hk hs hx hn hx'
  obtain ⟨ys, e, q1, q2, q3⟩ := h.heap b _ hb
  have hy := (q3 o _ ho).1
  have hold : ∀ x, Rel (σ.tipAt (σ.ρ k) (xs.flatMap V.cl).length) w (.sl k 0 n n s) x → Rel σ w (.sl k 0 n n s) x := fun x hx' => by
    cases hx' with
    | sl _ _ _ _ rc _ a hb hl hrc ha => exact .sl _ _ _ _ rc _ a hb hl hrc ha
  obtain ⟨s2, o2⟩ := St.recell s1 (o := o) (c := .arr xs .no) hb' (fun x hx' => hr x (hold x (by
    rw [List.getD_eq_getElem?_getD, ho] at hx'
    exact hx'))) hol rfl (fun x rb hw => by obtain ⟨_, _, _, _, e, -, -⟩ := hw; cases e)
  exact ⟨_, l1, s2, t1.mono_own o2, hr⟩
theorem RetE.turn {P : Program} {f : Nat} {args args1 : List V} {H H1 : Hp} {Q : V → Hp → Prop} (hr : RetE P f args1 H1 Q) (hnd : ∀ a, a ∈ args1 → a.Nd) (hl : args1.length = args.length)
    (h : ∀ (σ : Sg) (w : World) (ra : Array Value), args.length = ra.size → St σ w (argF args) ra H → (∀ a, a ∈ args → a.Nd) → ∃ σ1, St σ1 w (argF args1) ra H1 ∧ Tr σ w (Own σ w (argF args) ra H) σ1 w (Own σ1 w (argF args1) ra H1)) : RetE P f args H Q := by
  refine ⟨hr.1, fun σ w ra hlen hst hn => ?_⟩
  obtain ⟨σ1, s1, t1⟩ := h σ w ra hlen hst hn
  refine (hr.2 σ1 w ra (hl.trans hlen) s1 hnd).mono fun e w' he => ?_
  obtain ⟨v, H', hq, x, σ', e1, e2, e3⟩ := he
  exact ⟨v, H', hq, x, σ', e1, e2, t1.trans e3⟩
theorem RetE.ofRet {P : Program} {f : Nat} {args : List V} {H H' : Hp} {v : V} (h : Ret P f args H v H') : RetE P f args H (fun v' H'' => v' = v ∧ H'' = H') := ⟨h.1, fun σ w ra hl hst hn => (h.2 σ w ra hl hst hn).mono fun e w' ⟨x, σ', h1, h2, h3⟩ => ⟨v, H', ⟨rfl, rfl⟩, x, σ', h1, h2, h3⟩⟩
end Go.Proofs.Ytgodfjbmblghnaa


set_option linter.unusedVariables false
set_option linter.unusedSimpArgs false
set_option linter.unnecessarySimpa false
set_option maxRecDepth 20000
set_option maxHeartbeats 2000000
namespace Go.Proofs.Ytgodfjbmblghnaa
open Go Go.Ab Go.Proofs
attribute [local congr] g_bin g_nilS g_nilP g_un g_ext g_bx g_fa g_ld g_st g_ix g_ixA g_slc g_mk g_bs g_bd g_nc g_cv g_len g_lenT g_app g_appB g_cpy g_mm g_call g_callG g_calm g_calmG g_range g_res g_pick g_cond g_loop g_Jv g_eqS g_eqP g_fd g_ixT g_ta g_lkp g_upd g_mkM g_appS g_inv g_callE g_callEG g_invE g_zr g_wr
theorem fm_map {α : Type} (h : Sd → α) {p q : Nat → List Sd} {m : Nat} (e : ∀ i, i < m → (p i).map h = (q i).map h) : (fmP p m).map h = (fmP q m).map h := by
  induction m with
  | zero => rfl
  | succ m ih => rw [fm_s, fm_s, List.map_append, List.map_append, ih (fun i hi => e i (by omega)), e m (by omega)]
end Go.Proofs.Ytgodfjbmblghnaa


set_option linter.unusedVariables false
set_option linter.unusedSimpArgs false
set_option linter.unnecessarySimpa false
set_option maxRecDepth 20000
set_option maxHeartbeats 2000000
namespace Go.Proofs.Ytgodfjbmblghnaa
open Go Go.Ab Go.Proofs
attribute [local congr] g_bin g_nilS g_nilP g_un g_ext g_bx g_fa g_ld g_st g_ix g_ixA g_slc g_mk g_bs g_bd g_nc g_cv g_len g_lenT g_app g_appB g_cpy g_mm g_call g_callG g_calm g_calmG g_range g_res g_pick g_cond g_loop g_Jv g_eqS g_eqP g_fd g_ixT g_ta g_lkp g_upd g_mkM g_appS g_inv g_callE g_callEG g_invE g_zr g_wr
theorem ruI_b {l m : List Nu} (h : l.map Nu.b = m.map Nu.b) (n : Int) : ruI l n = ruI m n := by
  have hl : l.length = m.length := by have := congrArg List.length h; simpa using this
  have e : ∀ l : List Nu, idxI (fun r => decide (r.b ≤ n)) l.reverse = idxI (fun b : Int => decide (b ≤ n)) (l.map Nu.b).reverse := fun l => by
    unfold idxI
    rw [← List.map_reverse, List.findIdx?_map]
    rfl
  unfold ruI
  rw [e, e, h, hl]
def chS (s : Sy) (u r : Nat) (q : Nu) : Sy := { s with se := s.se.set u ((s.se.getD u []).set r { q with b := ((s.se.getD u []).getD r default).b }) }
theorem ch_se (s : Sy) (u r : Nat) (q : Nu) (t : Nat) (h : t < s.se.length) : (chS s u r q).se.getD t [] = if u = t then (s.se.getD u []).set r { q with b := ((s.se.getD u []).getD r default).b } else s.se.getD t [] := by
  show (s.se.set u _).getD t [] = _
  rw [List.getD_eq_getElem?_getD, List.getElem?_set]
  by_cases e : u = t
  · subst e; rw [if_pos rfl, if_pos rfl, if_pos h]; rfl
  · rw [if_neg e, if_neg e, List.getD_eq_getElem?_getD]
theorem set_b (l : List Nu) (r : Nat) (q : Nu) : (l.set r { q with b := (l.getD r default).b }).map Nu.b = l.map Nu.b := by
  refine List.ext_getElem (by simp) fun i h1 h2 => ?_
  simp only [List.getElem_map, List.getElem_set]
  split
  · rename_i hi
    subst hi
    rw [List.getD_eq_getElem?_getD, List.getElem?_eq_getElem (by simpa using h2)]; rfl
  · rfl
theorem ch_ru (s : Sy) (u r : Nat) (q : Nu) (t n : Int) (h0 : 0 ≤ t) (h1 : t < s.se.length) : ruI ((chS s u r q).se.getD t.toNat []) n = ruI (s.se.getD t.toNat []) n := by
  rw [ch_se s u r q t.toNat (by omega)]
  split
  · rename_i h
    rw [← h]
    exact ruI_b (set_b _ r q) n
  · rfl
theorem ch_rule (s : Sy) (u r : Nat) (q : Nu) (t n : Int) (h0 : 0 ≤ t) (h1 : t < s.se.length) (hr : 0 ≤ ruI (s.se.getD t.toNat []) n) (hn : ¬ (t = (u : Int) ∧ ruI (s.se.getD t.toNat []) n = (r : Int))) : ruOf (chS s u r q) n t = ruOf s n t := by
  unfold ruOf
  rw [ch_ru s u r q t n h0 h1, ch_se s u r q t.toNat (by omega)]
  by_cases e : u = t.toNat
  · rw [if_pos e]
    have : r ≠ (ruI (s.se.getD t.toNat []) n).toNat := fun h => hn ⟨by omega, by omega⟩
    rw [e, List.getD_eq_getElem?_getD, List.getElem?_set_ne this, ← List.getD_eq_getElem?_getD]
  · rw [if_neg e]
theorem any_congr' {α : Type} (l : List α) (f g : α → Bool) (h : ∀ x, x ∈ l → f x = g x) : l.any f = l.any g := by
  induction l with
  | nil => rfl
  | cons x l ih => rw [List.any_cons, List.any_cons, h x (by simp), ih (fun y hy => h y (by simp [hy]))]
theorem ch_us {s : Sy} (sm : Sm s) (ok : okSy s = true) (u r : Nat) (q : Nu) : ∀ (f : Nat) (n t : Int), 0 ≤ n → 0 ≤ t → t < s.se.length → usF f (chS s u r q) n t u r = usF f s n t u r := by
  intro f
  induction f with
  | zero => intro n t _ _ _; rfl
  | succ f ih =>
    intro n t hn h0 h1
    have ru := ruOk sm ok hn h0 h1
    have e1 : ∀ s : Sy, usF (f + 1) s n t u r = ((decide (t = (u : Int)) && decide (ruI (s.se.getD t.toNat []) n = (r : Int))) || (ruOf s n t).p.any fun p => (decide (p.k = 3) && usF f s (n.tdiv (ruOf s n t).d) p.s u r) || (decide (p.k = 4) && decide (n.tmod (ruOf s n t).d ≠ 0) && usF f s (n.tmod (ruOf s n t).d) p.s u r)) := fun _ => rfl
    rw [e1, e1, ch_ru s u r q t n h0 h1]
    by_cases hc : t = (u : Int) ∧ ruI (s.se.getD t.toNat []) n = (r : Int)
    · rw [decide_eq_true hc.1, decide_eq_true hc.2]; rfl
    · rw [ch_rule s u r q t n h0 h1 ru.i0 hc]
      congr 1
      refine any_congr' _ _ _ fun p hp => ?_
      obtain ⟨hk, -, hps, hdv⟩ := okPi_k (ru.p p hp)
      by_cases hz : p.k = 3 ∨ p.k = 4
      · obtain ⟨s0, s1⟩ := hps hz
        have z : (ruOf s n t).d ≠ 0 := fun h => by have := hdv (by omega); rw [h] at this; cases this
        obtain ⟨d1, d2, d3, d4, d5⟩ := ru_div ru hn z
        rw [ih _ _ (by omega) s0 s1, ih _ _ (by omega) s0 s1]
      · rw [decide_eq_false (show ¬ p.k = 3 by omega), decide_eq_false (show ¬ p.k = 4 by omega)]; rfl
theorem ch_say {s : Sy} (sm : Sm s) (ok : okSy s = true) (u r : Nat) (q : Nu) : ∀ (f : Nat) (n t g k d : Int), 0 ≤ n → 0 ≤ t → t < s.se.length → usF f s n t u r = false → sayF f (chS s u r q) n t g k d = sayF f s n t g k d := by
  intro f
  induction f with
  | zero => intro n t g k d _ _ _ _; rfl
  | succ f ih =>
    intro n t g k d hn h0 h1 hu
    have ru := ruOk sm ok hn h0 h1
    have e1 : ∀ s : Sy, usF (f + 1) s n t u r = ((decide (t = (u : Int)) && decide (ruI (s.se.getD t.toNat []) n = (r : Int))) || (ruOf s n t).p.any fun p => (decide (p.k = 3) && usF f s (n.tdiv (ruOf s n t).d) p.s u r) || (decide (p.k = 4) && decide (n.tmod (ruOf s n t).d ≠ 0) && usF f s (n.tmod (ruOf s n t).d) p.s u r)) := fun _ => rfl
    rw [e1, Bool.or_eq_false_iff] at hu
    obtain ⟨hu1, hu2⟩ := hu
    have hc : ¬ (t = (u : Int) ∧ ruI (s.se.getD t.toNat []) n = (r : Int)) := fun h => by
      rw [decide_eq_true h.1, decide_eq_true h.2] at hu1; cases hu1
    have er := ch_rule s u r q t n h0 h1 ru.i0 hc
    have ei := ch_ru s u r q t n h0 h1
    have ea : atOf (chS s u r q) n t g k d = atOf s n t g k d := by
      have e1 : ∀ s : Sy, atOf s n t g k d = { n := n, t := t, g := g, k := k, r := ruI (s.se.getD t.toNat []) n, p := 0, d := d, q := if 0 < (ruOf s n t).d then n.tdiv (ruOf s n t).d else 0, e := if 0 < (ruOf s n t).d then n.tmod (ruOf s n t).d else 0, c := cntG s (ruOf s n t) g } := fun _ => rfl
      rw [e1, e1, er, ei]; rfl
    rw [sayF_s, sayF_s, er]
    refine (fm_map (p := pcsF f (chS s u r q) n t g k d) (q := pcsF f s n t g k d) id fun i hi => ?_) |> fun h => by rw [List.map_id, List.map_id] at h; exact h
    rw [List.map_id, List.map_id]
    have hm := ru.p _ (getD_memA _ default hi)
    have hu3 : ∀ p, p ∈ (ruOf s n t).p → ((decide (p.k = 3) && usF f s (n.tdiv (ruOf s n t).d) p.s u r) || (decide (p.k = 4) && decide (n.tmod (ruOf s n t).d ≠ 0) && usF f s (n.tmod (ruOf s n t).d) p.s u r)) = false := fun p hp => by
      have := List.any_eq_false.1 hu2 p hp
      exact Bool.eq_false_iff.2 this
    have hu3 := hu3 _ (getD_memA _ default hi)
    unfold pcsF
    rw [er, ea]
    generalize (ruOf s n t).p.getD i default = p at *
    obtain ⟨hk, -, hps, hdv⟩ := okPi_k hm
    have ef : ∀ a t g k c, formW (chS s u r q) a t g k c = formW s a t g k c := fun _ _ _ _ _ => rfl
    unfold pcW
    by_cases k1 : p.k = 1
    · rw [if_pos k1, if_pos k1]; rfl
    rw [if_neg k1, if_neg k1]
    by_cases k2 : p.k = 2
    · rw [if_pos k2, if_pos k2]; rfl
    rw [if_neg k2, if_neg k2]
    by_cases k3 : p.k = 3
    · rw [if_pos k3, if_pos k3]
      obtain ⟨s0, s1⟩ := hps (.inl k3)
      have z : (ruOf s n t).d ≠ 0 := fun h => by have := hdv (by omega); rw [h] at this; cases this
      obtain ⟨d1, d2, d3, d4, d5⟩ := ru_div ru hn z
      have eq : (atOf s n t g k d).q = n.tdiv (ruOf s n t).d := if_pos (show 0 < (ruOf s n t).d by omega)
      rw [Bool.or_eq_false_iff, decide_eq_true k3, Bool.true_and] at hu3
      rw [eq]
      exact ih _ _ _ _ _ (by omega) s0 s1 hu3.1
    rw [if_neg k3, if_neg k3]
    by_cases k4 : p.k = 4
    · rw [if_pos k4, if_pos k4]
      obtain ⟨s0, s1⟩ := hps (.inr k4)
      have z : (ruOf s n t).d ≠ 0 := fun h => by have := hdv (by omega); rw [h] at this; cases this
      obtain ⟨d1, d2, d3, d4, d5⟩ := ru_div ru hn z
      have ee : (atOf s n t g k d).e = n.tmod (ruOf s n t).d := if_pos (show 0 < (ruOf s n t).d by omega)
      have ee' : ({ atOf s n t g k d with p := (i : Int) } : At).e = n.tmod (ruOf s n t).d := ee
      rw [ee']
      by_cases he : n.tmod (ruOf s n t).d = 0
      · rw [if_pos he, if_pos he]
      · rw [if_neg he, if_neg he]
        rw [Bool.or_eq_false_iff, decide_eq_true k4, decide_eq_true he, Bool.true_and, Bool.true_and] at hu3
        exact ih _ _ _ _ _ (by omega) s0 s1 hu3.2
    rw [if_neg k4, if_neg k4]
    rfl
theorem ch_isU {s : Sy} {n t g k : Int} (sm : Sm s) (ho : okAsk s n t g k = true) (u r : Nat) (q : Nu) : fil (isU (chS s u r q) t u r) n = fil (isU s t u r) n := by
  obtain ⟨h1, h2, -, -, h5, h6, -⟩ := okAsk_parts ho
  unfold fil
  refine List.filter_congr fun j hj => ?_
  obtain ⟨i, -, rfl⟩ := List.mem_map.1 hj
  exact ch_us sm h1 u r q _ _ _ (Int.natCast_nonneg i) h5 h6
theorem ch_isD {s : Sy} {n t g k : Int} (sm : Sm s) (ho : okAsk s n t g k = true) (u r : Nat) (q : Nu) : (fil (isD s (chS s u r q) t g k) n).all (fun x => (fil (isU s t u r) n).any fun y => decide (y = x)) = true := by
  obtain ⟨h1, h2, -, -, h5, h6, -⟩ := okAsk_parts ho
  rw [List.all_eq_true]
  intro m hm
  unfold fil at hm
  obtain ⟨hm1, hm2⟩ := List.mem_filter.1 hm
  refine List.any_eq_true.2 ⟨m, List.mem_filter.2 ⟨hm1, ?_⟩, decide_eq_true rfl⟩
  obtain ⟨i, -, rfl⟩ := List.mem_map.1 hm1
  cases hu : isU s t u r (Int.ofNat i)
  · exfalso
    have := ch_say sm h1 u r q _ (Int.ofNat i) t g k 0 (Int.natCast_nonneg i) h5 h6 hu
    have e : saW (chS s u r q) (Int.ofNat i) t g k = saW s (Int.ofNat i) t g k := this
    unfold isD trW at hm2
    rw [e] at hm2
    simp at hm2
  · rfl
theorem c33 (a b : List Int) (H : Hp) (ha : a.length ≤ 1000000000000) (hb : b.length ≤ 1000000000000) : Ret Try.prog 33 [ints a .no, ints b .no] H (B (a.all fun x => b.any fun y => decide (y = x))) H := by
  refine mk33 _ _ rfl (Nat.le_refl _) (.inl rfl) ?_
  simp only [vc33, real]
  repeat (first | (with_reducible first | refine Ju.go ?_ | (refine Hd.go ?_; intro K Q hK hQ; simp only [Try.underlying3, Try.underlying4, Try.underlying5, Try.underlying9, Try.underlying29, Try.underlying57, Try.underlying55, j_one, j_side, j_tl, j_fl, nod_nod, nod_imm, nod_ints, nd_no, nd_own, nd_full, nd_fO, oF_ap, oF_succ, nod_sl, nod_ptr, nod_cptr, nod_fn, nod_junk, nodL_imm, nod_agg, nod_tup, nod2_imm, nod2_agg, cl_imm, cl_ints, cl_agg, e_add, e_sub, e_mul, e_quo, e_rem, e_eql, e_neq, e_lss, e_leq, e_gtr, e_geq, e_beq, e_bne, e_neg, e_not, e_pick, e_cond, e_gT, e_gF, e_len, e_lenA, e_lenS, e_ix, e_ixS, e_ldc, e_ldci, e_fa, rep_cl, rep_I, e_bx, okE_I, okE_B, okE_E8, okE_ints, stV_imm, stV_ints, j_and', j_or', List.getD_cons_zero, List.getD_cons_succ, List.map_cons, List.map_nil, decide_eq_true_eq, Int.toNat_natCast, Nat.mul_one, Nat.zero_add, true_and, and_true, List.length_map, Bool.not_eq_true', decide_eq_false_iff_not, nod_lists, e_lenL, e_ixL, okE_lists, bs1, bs1L, bs2L, e_app, e_appL, e_app0, e_app0L, e_slcLo, e_slcHi, e_slcLH, e_slcHH, e_slcLHH, e_callG, e_callY, e_calmG, e_slS0, e_slSLo, e_slSHi, e_slSLH, e_slSHH, e_slSLHH, e_max2, e_min2, e_max3, e_x20, e_x21, e_x30, e_x31, e_x32, nod2_ints, nod2_lists, rep_fl, bs0, e_nilE, if_true, if_false, cond_true, cond_false, decide_true, decide_false, eq_self, Bool.false_eq_true, false_implies, true_implies, ap_own, ap_full, e_slcLoL, e_slcHiL, e_slcLHL, hp_assoc, hp_cons, hp_nil, hp_len, hp_len_cons, hp_len_nil, lv_cons, lv_nil, vs_0, vs_s, spl_s, spl_0, spl_n, dr_s, dr_0, tk_s, tk_0, e_bxI, e_fac, e_facA, e_ldcA, e_ldcL, e_ldcF, okE_agg, ck_I, ck_B, ck_ints, ck_lists, ck_arr, ck_ptr, ck_cptr, ck_fn, all_c, all_n, stV_agg, stV_lists, stV_arr, stV_ptr, stV_cptr, stV_fn, nodL_ints, nodL_lists, nodL_ptr, nodL_cptr, nodL_fn, nodL_arr0, cl_arr, cl_ptr, cl_cptr, cl_fn, cl_lists, okE_arr, okE_fn, okE_ptr, okE_cptr, e_bd0, e_bd1, e_wr, Nat.reduceAdd, Nat.reduceLeDiff, Nat.reduceEqDiff, Nat.add_zero, Bool.and_self, Bool.true_and, Bool.and_true, e_lc0, e_lA0, e_lM0, e_sc0, e_rc0, e_rA0, e_lI0, e_sI0, e_cI0, e_lc1, e_lA1, e_lM1, e_sc1, e_rc1, e_rA1, e_lI1, e_sI1, e_cI1, e_lc2, e_lA2, e_lM2, e_sc2, e_rc2, e_rA2, e_lI2, e_sI2, e_cI2, e_lc3, e_lA3, e_lM3, e_sc3, e_rc3, e_rA3, e_lI3, e_sI3, e_cI3, e_lc4, e_lA4, e_lM4, e_sc4, e_rc4, e_rA4, e_lI4, e_sI4, e_cI4, e_lc5, e_lA5, e_lM5, e_sc5, e_rc5, e_rA5, e_lI5, e_sI5, e_cI5, own0_arr, own0_ints, own0_lists, own0_imm, own0_ptr, own0_cptr, own0_fn, own0_agg, e_appB, e_appB0, ck_sl, own0_sl, stV_sl, nodL_sl, cl_sl, okE_sl, e_mkM, e_mkI, e_mkIm, e_callB, nod_bfn, nod_ifc, nod_map, nodL_ifc, nodL_bfn, nodL_map, cl_ifc, cl_bfn, ck_ifc, ck_bfn, ck_map, stV_ifc, okE_ifc, okE_bfn, nod_arr, nodL_arr, e_addU, e_mulU, e_shrK, e_shlK, e_andK, e_cv64, e_cv32, e_callEG, e_callEY, e_callEB, e_zr, e_nilSl, e_ncP, e_ncC, e_npnP, e_npeP, e_npnC, e_npeC, e_npnN, e_npeN, e_ixAP, e_ldcP, e_ldcS, e_ldcV, e_ldcT, okE_nilP, ck_nilP, okE_nilI, ck_nilI, okE_str, ck_str, e_tlen, e_tix, e_teq, e_tne, e_tadd, e_tb, e_u8lss, e_u8gtr, noV_full, nod_arr, List.length_map, reduceIte, Int.reduceEq, Int.reduceNeg, ne_eq, not_true_eq_false, not_false_eq_true, Bool.not_true, Bool.not_false, Bool.true_or, Bool.or_true, Bool.false_or, Bool.or_false, Bool.and_true, Bool.and_false, Bool.false_and, Bool.not_not, Bool.or_self, List.length_nil, Int.ofNat_zero, Int.cast_ofNat_Int, Int.natCast_zero, beq_self_eq_true, Bool.true_eq_false]; subst hK hQ) | refine Jr.go ?_) | refine sd ?_)
  refine loop_of (fun i : Nat => i ≤ a.length ∧ (a.take i).all (fun x => b.any fun y => decide (y = x)) = true) (fun i => [ints a .no, ints b .no, I i]) (fun _ => H) (fun i => a.length - i) 0 ⟨Nat.zero_le _, rfl⟩ rfl rfl ?_
  intro i ⟨hi, hp⟩
  repeat (first | (with_reducible first | refine Ju.go ?_ | (refine Hd.go ?_; intro K Q hK hQ; simp only [List.getD_cons_zero, nod_ints, nd_no, e_len, List.getD_cons_succ, nod_imm, Try.underlying3, e_lss, e_cond, decide_eq_true_eq]; subst hK hQ) | refine Jr.go ?_) | refine sd ?_)
  by_cases hlt : i < a.length
  · have d : (i : Int) < a.length := by omega
    have hbad := all_bad a 0 (fun x => b.any fun y => decide (y = x)) hlt
    have hgood := all_take a 0 (fun x => b.any fun y => decide (y = x)) hlt
    repeat (first | (with_reducible first | refine Ju.go ?_ | (refine Hd.go ?_; intro K Q hK hQ; simp only [d, if_true]; subst hK hQ) | refine Jr.go ?_) | refine sd ?_)
    refine loop_of (fun k : Nat => k ≤ b.length) (fun k => [ints a .no, ints b .no, I i, B ((b.take k).any fun y => decide (y = a.getD i 0)), I k]) (fun _ => H) (fun k => b.length - k) 0 (Nat.zero_le _) rfl rfl ?_
    intro k hk
    by_cases hkt : k < b.length
    · have d2 : (k : Int) < b.length := by omega
      have ta : (b.take (k + 1)).any (fun y => decide (y = a.getD i 0)) = ((b.take k).any (fun y => decide (y = a.getD i 0)) || decide (b.getD k 0 = a.getD i 0)) := by rw [take_snocA b 0 hkt, any_snoc]
      cases hq : (b.take k).any fun y => decide (y = a.getD i 0)
      · rw [hq] at ta
        repeat (first | (with_reducible first | refine Ju.go ?_ | (refine Hd.go ?_; intro K Q hK hQ; simp only [List.getD_cons_succ, List.getD_cons_zero, nod_ints, nd_no, e_len, nod_imm, Try.underlying3, e_lss, d2, decide_true, e_cond, if_true, e_ix, d, Int.toNat_natCast, nod_cptr, e_ldc, true_and, e_eql, e_gF, cond_false, j_side, j_one, e_add]; subst hK hQ) | refine Jr.go ?_) | refine sd ?_)
        exact ⟨k + 1, by omega, by rw [ta]; rfl, rfl, by omega⟩
      · rw [hq] at ta
        repeat (first | (with_reducible first | refine Ju.go ?_ | (refine Hd.go ?_; intro K Q hK hQ; simp only [List.getD_cons_succ, List.getD_cons_zero, nod_ints, nd_no, e_len, nod_imm, Try.underlying3, e_lss, d2, decide_true, e_cond, if_true, e_ix, d, Int.toNat_natCast, nod_cptr, e_ldc, true_and, e_eql, e_gF, cond_true, j_one, e_add]; subst hK hQ) | refine Jr.go ?_) | refine sd ?_)
        exact ⟨k + 1, by omega, by rw [ta]; rfl, rfl, by omega⟩
    · have d2 : ¬ (k : Int) < b.length := by omega
      rw [List.take_of_length_le (by omega)]
      cases hq : b.any fun y => decide (y = a.getD i 0)
      · repeat (first | (with_reducible first | refine Ju.go ?_ | (refine Hd.go ?_; intro K Q hK hQ; simp only [List.getD_cons_succ, List.getD_cons_zero, nod_ints, nd_no, e_len, nod_imm, Try.underlying3, e_lss, d2, decide_false, e_cond, Bool.false_eq_true, if_false, e_not, Bool.not_false, if_true]; subst hK hQ) | refine Jr.go ?_) | refine sd ?_)
        rw [hbad hq]
        exact end1 (fzI _)
      · repeat (first | (with_reducible first | refine Ju.go ?_ | (refine Hd.go ?_; intro K Q hK hQ; simp only [List.getD_cons_succ, List.getD_cons_zero, nod_ints, nd_no, e_len, nod_imm, Try.underlying3, e_lss, d2, decide_false, e_cond, Bool.false_eq_true, if_false, e_not, Bool.not_true, e_add]; subst hK hQ) | refine Jr.go ?_) | refine sd ?_)
        exact ⟨i + 1, ⟨by omega, by rw [hgood, hp, hq]; rfl⟩, rfl, rfl, by omega⟩
  · have d : ¬ (i : Int) < a.length := by omega
    repeat (first | (with_reducible first | refine Ju.go ?_ | (refine Hd.go ?_; intro K Q hK hQ; simp only [d, if_false]; subst hK hQ) | refine Jr.go ?_) | refine sd ?_)
    rw [List.take_of_length_le (by omega)] at hp
    rw [hp]
    exact end1 (fzI _)
end Go.Proofs.Ytgodfjbmblghnaa

set_option linter.unusedVariables false
set_option maxRecDepth 20000
set_option maxHeartbeats 4000000
namespace Go.Proofs.Ytgodfjbmblghnaa
open Go Go.Ab Go.Proofs
def an9b : An := { imm := [5, 6, 67, 77], jn := [(2, [2, 3, 5, 6, 9, 62]), (6, [2, 3, 5, 6, 9, 11]), (8, [2, 3, 5, 6, 11]), (11, [2, 3, 5, 6, 11, 12, 13]), (13, [12, 13, 14, 15, 16, 17])], lp := [], loud := [], ord := [(5, [(1, 8)], [[0, 2, 3, 4, 5, 6, 7, 8, 1, 9, 10], [0, 1, 2, 3, 4, 5, 6, 7, 8, 9, 10]])] }
def vc9b (C : Cb) (a0 a1 a2 a3 a4 : V) (H : Hp) (R : List V → Hp → Prop) : Prop :=
 C.aBx true 7 a0.nod H fun v1 H2 =>
 C.aBx true 4 a1.nod H2 fun v3 H4 =>
 C.aBx false 3 a4.nod H4 fun v5 H6 =>
 Jn (fun l7 H8 =>
 aCond (l7.getD 5 .junk).nod (
 C.callE 15 [] H8 fun v10 H11 =>
 R [v10] H11) (
 C.aLd 7 true false (l7.getD 2 .junk).nod H8 fun v12 H13 =>
 C.aBx false 7 (V.agg [(I 0), (I 0), (I 0), (I 0), (V.arr [] .full), (V.arr [] .full), (V.arr [] .full)]) H13 fun v14 H15 =>
 C.aSt 7 v14.nod v12 H15 fun v16 H17 =>
 C.aFA 6 1 false (l7.getD 2 .junk).nod fun v18 =>
 C.aLd 1 false false v18.nod H17 fun v19 H20 =>
 C.aAppB 1 24 (V.arr [] .full) v19.nod H20 fun v21 H22 =>
 C.aFA 6 1 false v14.nod fun v23 =>
 C.aSt 1 v23.nod v21 H22 fun v24 H25 =>
 Jn (fun l26 H27 =>
 C.aFA 6 1 false (l26.getD 2 .junk).nod fun v29 =>
 C.aLd 1 false false v29.nod H27 fun v30 H31 =>
 C.aIx 1 v30.nod (l26.getD 0 .junk).nod.nod fun v32 =>
 C.aLd 1 false false v32.nod H31 fun v33 H34 =>
 C.aIx 3 v33.nod (l26.getD 1 .junk).nod.nod fun v35 =>
 C.aFA 0 1 false v35.nod fun v36 =>
 C.aLd 1 false false v36.nod H34 fun v37 H38 =>
 C.aFA 0 1 false (l26.getD 4 .junk).nod fun v39 =>
 C.aSt 1 v39.nod v37 H38 fun v40 H41 =>
 Jn (fun l42 H43 =>
 C.aLd 7 true false (l42.getD 4 .junk).nod H43 fun v45 H46 =>
 C.callE 17 [v45.nod] H46 fun v47 H48 =>
 C.aUn .not v47.nod fun v49 =>
 aCond v49.nod (
 C.callE 15 [] H48 fun v50 H51 =>
 R [v50] H51) (
 Jn (fun l52 H53 =>
 C.aLd 7 true false (l52.getD 2 .junk).nod H53 fun v55 H56 =>
 C.aLd 4 true false (l52.getD 3 .junk).nod H56 fun v57 H58 =>
 C.callE 32 [v55.nod, v57.nod, (l52.getD 0 .junk).nod.nod, (l52.getD 1 .junk).nod.nod] H58 fun v59 H60 =>
 C.aExt 0 v59.nod.nod fun v61 =>
 C.aExt 1 v59.nod.nod fun v62 =>
 Jn (fun l63 H64 =>
 C.aBin (Try.prog.underlying 29) .eql (l63.getD 1 .junk).nod.nod (I 0) fun v66 =>
 Jv (fun v67 H68 =>
 Jv (fun v71 H72 =>
 Jv (fun v75 H76 =>
 Jv (fun v80 H81 =>
 Jv (fun v85 H86 =>
 R [v85] H86)
 (fun R87 =>
 aG v80.nod true (
 C.callE 15 [] H81 fun v88 H89 =>
 R87 v88.nod H89) (
 R87 (B false) H81)))
 (fun R82 =>
 aG v75.nod true (
 C.callE 33 [(l63.getD 0 .junk).nod.nod, (l63.getD 2 .junk).nod.nod] H76 fun v83 H84 =>
 R82 v83.nod H84) (
 R82 (B false) H76)))
 (fun R77 =>
 aG v71.nod true (
 C.callE 29 [(l63.getD 2 .junk).nod.nod, (l63.getD 4 .junk).nod.nod] H72 fun v78 H79 =>
 R77 v78.nod H79) (
 R77 (B false) H72)))
 (fun R73 =>
 aG v67.nod true (
 C.aBin (Try.prog.underlying 29) .eql (l63.getD 5 .junk).nod.nod (I 0) fun v74 =>
 R73 v74.nod H68) (
 R73 (B false) H68)))
 (fun R69 =>
 aG v66.nod true (
 C.aBin (Try.prog.underlying 29) .eql (l63.getD 3 .junk).nod.nod (I 0) fun v70 =>
 R69 v70.nod H64) (
 R69 (B false) H64)))
 (fun R65 =>
 C.aLd 7 true false (l52.getD 4 .junk).nod H60 fun v90 H91 =>
 C.aLd 4 true false (l52.getD 3 .junk).nod H91 fun v92 H93 =>
 C.callE 32 [v90.nod, v92.nod, (l52.getD 0 .junk).nod.nod, (l52.getD 1 .junk).nod.nod] H93 fun v94 H95 =>
 C.aExt 0 v94.nod.nod fun v96 =>
 C.aExt 1 v94.nod.nod fun v97 =>
 R65 [(l52.getD 5 .junk), (l52.getD 6 .junk), v61, v62, v96, v97] H95))
 (fun R54 =>
 C.aLd 7 true false (l42.getD 2 .junk).nod H48 fun v98 H99 =>
 C.aLd 7 true false (l42.getD 4 .junk).nod H99 fun v100 H101 =>
 C.aLd 4 true false (l42.getD 3 .junk).nod H101 fun v102 H103 =>
 C.callE 30 [v98.nod, v100.nod, v102.nod] H103 fun v104 H105 =>
 C.aExt 0 v104.nod.nod fun v106 =>
 C.aExt 1 v104.nod.nod fun v107 =>
 R54 [(l42.getD 0 .junk), (l42.getD 1 .junk), (l42.getD 2 .junk), (l42.getD 3 .junk), (l42.getD 4 .junk), v106, v107] H105)))
 (fun R44 =>
 C.aFA 6 1 false (l26.getD 5 .junk).nod fun v108 =>
 C.aLd 1 false false v108.nod H41 fun v109 H110 =>
 C.aIx 1 v109.nod (l26.getD 0 .junk).nod.nod fun v111 =>
 C.aLd 1 false false v111.nod H110 fun v112 H113 =>
 C.aLd 3 true false (l26.getD 4 .junk).nod H113 fun v114 H115 =>
 C.aIx 3 v112.nod (l26.getD 1 .junk).nod.nod fun v116 =>
 C.aSt 3 v116.nod v114 H115 fun v117 H118 =>
 R44 [(l26.getD 0 .junk), (l26.getD 1 .junk), (l26.getD 2 .junk), (l26.getD 3 .junk), (l26.getD 5 .junk)] H118))
 (fun R28 =>
 (C.aFA 6 1 false v14.nod fun v119 =>
 C.aFA 6 1 false (l7.getD 2 .junk).nod fun v120 =>
 C.aLd 1 false false v120.nod H25 fun v121 H122 =>
 C.aIx 1 v121.nod (l7.getD 0 .junk).nod.nod fun v123 =>
 C.aLd 1 false false v123.nod H122 fun v124 H125 =>
 C.aAppB 3 40 (V.arr [] .full) v124.nod H125 fun v126 H127 =>
 C.aLd 1 false false v119.nod H127 fun v128 H129 =>
 C.aIx 1 v128.nod (l7.getD 0 .junk).nod.nod fun v130 =>
 C.aSt 1 v130.nod v126 H129 fun v131 H132 =>
 R28 [(l7.getD 0 .junk), (l7.getD 1 .junk), (l7.getD 2 .junk), (l7.getD 3 .junk), (l7.getD 4 .junk), v14] H132) ∧ (C.aFA 6 1 false v14.nod fun v133 =>
 C.aLd 1 false false v133.nod H25 fun v134 H135 =>
 C.aFA 6 1 false (l7.getD 2 .junk).nod fun v136 =>
 C.aLd 1 false false v136.nod H135 fun v137 H138 =>
 C.aIx 1 v137.nod (l7.getD 0 .junk).nod.nod fun v139 =>
 C.aLd 1 false false v139.nod H138 fun v140 H141 =>
 C.aAppB 3 40 (V.arr [] .full) v140.nod H141 fun v142 H143 =>
 C.aIx 1 v134.nod (l7.getD 0 .junk).nod.nod fun v144 =>
 C.aSt 1 v144.nod v142 H143 fun v145 H146 =>
 R28 [(l7.getD 0 .junk), (l7.getD 1 .junk), (l7.getD 2 .junk), (l7.getD 3 .junk), (l7.getD 4 .junk), v14] H146))))
 (fun R9 =>
 C.aLd 7 true false v1.nod H6 fun v147 H148 =>
 C.callE 14 [v147.nod] H148 fun v149 H150 =>
 C.aUn .not v149.nod fun v151 =>
 Jv (fun v152 H153 =>
 Jv (fun v159 H160 =>
 Jv (fun v169 H170 =>
 Jv (fun v173 H174 =>
 Jv (fun v181 H182 =>
 Jv (fun v185 H186 =>
 Jv (fun v196 H197 =>
 R9 [a2, a3, v1, v3, v5, v196] H197)
 (fun R198 =>
 aG v185.nod false (
 C.aFA 2 1 false v5.nod fun v199 =>
 C.aLd 1 false false v199.nod H186 fun v200 H201 =>
 C.aLen v200.nod fun v202 =>
 C.aBin (Try.prog.underlying 3) .gtr v202.nod (I 20) fun v203 =>
 R198 v203.nod H201) (
 R198 (B true) H186)))
 (fun R187 =>
 aG v181.nod false (
 C.aFA 6 1 false v1.nod fun v188 =>
 C.aLd 1 false false v188.nod H182 fun v189 H190 =>
 C.aIx 1 v189.nod a2.nod.nod fun v191 =>
 C.aLd 1 false false v191.nod H190 fun v192 H193 =>
 C.aLen v192.nod fun v194 =>
 C.aBin (Try.prog.underlying 3) .geq a3.nod.nod v194.nod fun v195 =>
 R187 v195.nod H193) (
 R187 (B true) H182)))
 (fun R183 =>
 aG v173.nod false (
 C.aBin (Try.prog.underlying 3) .lss a3.nod.nod (I 0) fun v184 =>
 R183 v184.nod H174) (
 R183 (B true) H174)))
 (fun R175 =>
 aG v169.nod false (
 C.aFA 6 1 false v1.nod fun v176 =>
 C.aLd 1 false false v176.nod H170 fun v177 H178 =>
 C.aLen v177.nod fun v179 =>
 C.aBin (Try.prog.underlying 3) .geq a2.nod.nod v179.nod fun v180 =>
 R175 v180.nod H178) (
 R175 (B true) H170)))
 (fun R171 =>
 aG v159.nod false (
 C.aBin (Try.prog.underlying 3) .lss a2.nod.nod (I 0) fun v172 =>
 R171 v172.nod H160) (
 R171 (B true) H160)))
 (fun R161 =>
 aG v152.nod false (
 C.aLd 7 true false v1.nod H153 fun v162 H163 =>
 C.aLd 4 true false v3.nod H163 fun v164 H165 =>
 C.callE 22 [v162.nod, v164.nod, (B true)] H165 fun v166 H167 =>
 C.aBin (Try.prog.underlying 29) .neq v166.nod (I 0) fun v168 =>
 R161 v168.nod H167) (
 R161 (B true) H153)))
 (fun R154 =>
 aG v151.nod false (
 C.aFA 0 1 false v3.nod fun v155 =>
 C.aLd 1 false false v155.nod H150 fun v156 H157 =>
 C.aBin (Try.prog.underlying 3) .gtr v156.nod (I 200) fun v158 =>
 R154 v158.nod H157) (
 R154 (B true) H150)))
theorem wf9b : (Nat.ble 5 Try.f9.ntmps && wfC an9b Try.f9.ntmps (Try.f9.body.getD .skip)) = true := by kernel_rfl
theorem tie9b (C : Cb) (a0 a1 a2 a3 a4 : V) (H : Hp) (R : List V → Hp → Prop) : wpG Try.prog C an9b (Try.f9.body.getD .skip) (argF [a0, a1, a2, a3, a4]) H (retG Try.prog C Try.f9 R) (fun _ _ _ => False) (retG Try.prog C Try.f9 R) = vc9b C a0 a1 a2 a3 a4 H R := by kernel_rfl
theorem mk9b (a0 a1 a2 a3 a4 : V) {H : Hp} {v : V} {H1 : Hp} (hd : v.Nd) (hn : H.length ≤ H1.length) (hb : H1 = H ∨ ∀ (b : Nat) (blk : Blk), H1[b]? = some blk → H[b]? = some blk ∨ BelB H1.length blk) (h : vc9b (real Try.prog) a0 a1 a2 a3 a4 H (retF v H1)) : Ret Try.prog 9 [a0, a1, a2, a3, a4] H v H1 :=
  ret_mk (an := an9b) hm Try.call9 Try.func9 rfl wf9b hd hn hb (Eq.mpr (tie9b (real Try.prog) a0 a1 a2 a3 a4 H (retF v H1)) h)
end Go.Proofs.Ytgodfjbmblghnaa

