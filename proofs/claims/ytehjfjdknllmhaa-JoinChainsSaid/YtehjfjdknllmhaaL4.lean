/- JoinChains. -/
import Derived.Test.YtehjfjdknllmhaaJP
import Derived.Test.YtehjfjdknllmhaaJVL4
set_option linter.unusedVariables false
set_option linter.unusedSimpArgs false
set_option linter.unnecessarySimpa false
set_option maxRecDepth 20000
set_option maxHeartbeats 2000000
namespace Go.Proofs.Ytehjfjdknllmhaa
open Go Go.Ab Go.Proofs
attribute [local congr] g_bin g_nilS g_nilP g_un g_ext g_bx g_fa g_ld g_st g_ix g_ixA g_slc g_mk g_bs g_bd g_nc g_cv g_len g_lenT g_app g_cpy g_mm g_call g_callG g_calm g_calmG g_range g_res g_pick g_cond g_loop g_Jv
def lgB (l : List (List Int)) (i : Nat) : Bool := decide ((500 : Int) < l.length) || (l.take i).any fun x => decide ((100000 : Int) < x.length)
def rtB (n r : Int) (l : List (List Int)) (i : Nat) : Bool := decide (1 ≤ n) && decide (0 ≤ r) && decide (0 < l.length) && (l.take i).all fun x => okS x
theorem lgB_succ (l : List (List Int)) (i : Nat) (h : i < l.length) : lgB l (i + 1) = (lgB l i || decide ((100000 : Int) < (l.getD i []).length)) := by
  unfold lgB
  rw [List.take_add_one, getD_someL l h]
  simp [Bool.or_assoc]
theorem rtB_succ (n r : Int) (l : List (List Int)) (i : Nat) (h : i < l.length) : rtB n r l (i + 1) = (rtB n r l i && okS (l.getD i [])) := by
  unfold rtB
  rw [List.take_add_one, getD_someL l h]
  simp [Bool.and_assoc]
theorem chain_long {n r : Int} {l : List (List Int)} (h : lgB l l.length = true) : chainR n r l = ([], [], 4) := by
  have e : chainE n r l = 4 := by
    unfold chainE
    by_cases h5 : (500 : Int) < l.length
    · rw [if_pos (by omega)]
    · have hw : wavesE l = 4 := by
        unfold lgB at h
        rw [List.take_length, decide_eq_false h5, Bool.false_or] at h
        unfold wavesE
        rw [if_pos (by rw [← h]; congr 1; funext x; exact decide_eq_decide.2 (by omega))]
      rw [if_neg (by omega), hw, if_pos (by decide)]
  unfold chainR
  rw [e, if_pos (by decide)]
theorem chain_wrong {n r : Int} {l : List (List Int)} (h : lgB l l.length = false) (h2 : rtB n r l l.length = false) : chainR n r l = ([], [], 2) := by
  unfold lgB at h
  unfold rtB at h2
  rw [List.take_length, Bool.or_eq_false_iff] at h
  rw [List.take_length] at h2
  have h5 := of_decide_eq_false h.1
  have h6 : (l.any fun x => decide (100000 < x.length)) = false := by rw [← h.2]; congr 1; funext x; exact decide_eq_decide.2 (by omega)
  have e : chainE n r l = 2 := by
    unfold chainE
    rw [if_neg (by omega)]
    by_cases hw : wavesE l = 0
    · rw [if_neg (by simp [hw])]
      have hx := wavesE_zero hw
      have ha : (l.all fun x => okS x) = true := List.all_eq_true.2 fun x hm => (hx x hm).2.ok
      rw [ha, Bool.and_true] at h2
      rw [if_pos ?_]
      simp only [Bool.and_eq_false_iff, decide_eq_false_iff_not] at h2
      omega
    · rw [if_pos hw]
      unfold wavesE at hw ⊢
      rw [if_neg (by simp [h6])] at hw ⊢
      split
      · rfl
      · rename_i hq; rw [if_neg hq] at hw; exact absurd rfl hw
  unfold chainR
  rw [e, if_pos (by decide)]
theorem chain_right {n r : Int} {l : List (List Int)} (h : lgB l l.length = false) (h2 : rtB n r l l.length = true) : chainR n r l = chainS n r l.tail (l.getD 0 []) [0] ∧ wavesE l = 0 ∧ l.length ≤ 500 ∧ l ≠ [] ∧ 1 ≤ n ∧ 0 ≤ r := by
  unfold lgB at h
  unfold rtB at h2
  rw [List.take_length, Bool.or_eq_false_iff] at h
  rw [List.take_length] at h2
  have h5 := of_decide_eq_false h.1
  have h6 : (l.any fun x => decide (100000 < x.length)) = false := by rw [← h.2]; congr 1; funext x; exact decide_eq_decide.2 (by omega)
  simp only [Bool.and_eq_true, decide_eq_true_eq, List.all_eq_true] at h2
  have hw : wavesE l = 0 := wavesE_of fun x hx => ⟨by have := List.any_eq_false.1 h6 x hx; simpa using this, okS_Smp (h2.2 x hx)⟩
  have hne : l ≠ [] := List.length_pos_iff.1 h2.1.2
  have e : chainE n r l = 0 := by
    unfold chainE
    rw [if_neg (by omega), if_neg (by simp [hw]), if_neg (by omega)]
  refine ⟨?_, hw, by omega, hne, h2.1.1.1, h2.1.1.2⟩
  unfold chainR
  rw [if_neg (by simp [e])]
theorem chainS_len {n r : Int} : ∀ (l : List (List Int)) (out bg : List Int), out.length ≤ 100000 → (chainS n r l out bg).1.length ≤ 100000 ∧ (chainS n r l out bg).2.1.length ≤ bg.length + l.length
  | [], out, bg, h => ⟨h, Nat.le_refl _⟩
  | b :: l, out, bg, h => by
    unfold chainS
    split
    · split
      · rename_i h2
        have := chainS_len (n := n) (r := r) l _ (bg ++ [(out.length : Int) - n]) h2
        simp only [List.length_append, List.length_cons, List.length_nil] at this ⊢
        omega
      · simp
    · simp
theorem c4 (n r : Int) (l : List (List Int)) (H : Hp) : Ret Try.prog 4 [I n, I r, lists l .no] H (B true) H := by
  refine mk4 _ _ _ rfl (Nat.le_refl _) (.inl rfl) ?_
  simp only [vc4, real]
  repeat (with_reducible first | refine jn_go ?_ | refine ud_go ?_ | refine tr_go ?_ | ((first | refine hd_Bin ?_ | refine hd_Ld ?_ | refine hd_FA ?_ | refine hd_Un ?_ | refine hd_Ext ?_ | refine hd_Bx ?_ | refine hd_St ?_ | refine hd_Ix ?_ | refine hd_Cond ?_ | refine hd_G ?_ | refine hd_If ?_ | refine hd_Cd ?_ | refine hd_Ok ?_ | refine hd_Len ?_ | refine hd_Slc ?_ | refine hd_Mk ?_ | refine hd_BS ?_ | refine hd_Bd ?_ | refine hd_App ?_ | refine hd_MM ?_ | refine hd_CallG ?_ | refine hd_Cpy ?_ | refine hd_NC ?_ | refine hd_Cv ?_ | refine hd_Pick ?_ | refine hd_Res ?_ | refine hd_NilS ?_ | refine hd_NilP ?_ | refine hd_IxA ?_ | refine hd_LenT ?_ | refine hd_Rn ?_ | refine hd_Rv ?_ | refine hd_CallA ?_ | refine hd_CalmA ?_ | refine hd_Jv ?_); intro K Q hK hQ; simp only [nod_lists, nd_no, e_lenL, nod_imm, Try.underlying3, e_gtr, e_leq, e_gT, j_and', j_one, e_gF, j_or', List.getD_cons_succ, List.getD_cons_zero, e_cond]; subst hK hQ) | refine rn_go ?_ | refine rv_go ?_ | refine jv_go ?_)
  by_cases hk : l.length ≤ 6 ∨ (500 < l.length ∧ l.length ≤ 600)
  · have hlen : l.length ≤ 600 := by omega
    rcases hk with hk | hk
    case' inl =>
      have d1 : decide ((6 : Int) < l.length) = false := decide_eq_false (by omega)
      have d3 : decide ((600 : Int) < l.length) = false := decide_eq_false (by omega)
      repeat (with_reducible first | refine jn_go ?_ | refine ud_go ?_ | refine tr_go ?_ | ((first | refine hd_Bin ?_ | refine hd_Ld ?_ | refine hd_FA ?_ | refine hd_Un ?_ | refine hd_Ext ?_ | refine hd_Bx ?_ | refine hd_St ?_ | refine hd_Ix ?_ | refine hd_Cond ?_ | refine hd_G ?_ | refine hd_If ?_ | refine hd_Cd ?_ | refine hd_Ok ?_ | refine hd_Len ?_ | refine hd_Slc ?_ | refine hd_Mk ?_ | refine hd_BS ?_ | refine hd_Bd ?_ | refine hd_App ?_ | refine hd_MM ?_ | refine hd_CallG ?_ | refine hd_Cpy ?_ | refine hd_NC ?_ | refine hd_Cv ?_ | refine hd_Pick ?_ | refine hd_Res ?_ | refine hd_NilS ?_ | refine hd_NilP ?_ | refine hd_IxA ?_ | refine hd_LenT ?_ | refine hd_Rn ?_ | refine hd_Rv ?_ | refine hd_CallA ?_ | refine hd_CalmA ?_ | refine hd_Jv ?_); intro K Q hK hQ; simp only [d1, Bool.false_and, d3, Bool.or_self, Bool.false_eq_true, if_false, List.getD_cons_succ, List.getD_cons_zero, nod_lists, nd_no, e_lenL, nod_imm, Try.underlying3, e_gtr, e_geq, e_gT, j_and', j_one]; subst hK hQ) | refine rn_go ?_ | refine rv_go ?_ | refine jv_go ?_)
    case' inr =>
      have d1 : decide ((6 : Int) < l.length) = true := decide_eq_true (by omega)
      have d2 : decide ((l.length : Int) ≤ 500) = false := decide_eq_false (by omega)
      have d3 : decide ((600 : Int) < l.length) = false := decide_eq_false (by omega)
      repeat (with_reducible first | refine jn_go ?_ | refine ud_go ?_ | refine tr_go ?_ | ((first | refine hd_Bin ?_ | refine hd_Ld ?_ | refine hd_FA ?_ | refine hd_Un ?_ | refine hd_Ext ?_ | refine hd_Bx ?_ | refine hd_St ?_ | refine hd_Ix ?_ | refine hd_Cond ?_ | refine hd_G ?_ | refine hd_If ?_ | refine hd_Cd ?_ | refine hd_Ok ?_ | refine hd_Len ?_ | refine hd_Slc ?_ | refine hd_Mk ?_ | refine hd_BS ?_ | refine hd_Bd ?_ | refine hd_App ?_ | refine hd_MM ?_ | refine hd_CallG ?_ | refine hd_Cpy ?_ | refine hd_NC ?_ | refine hd_Cv ?_ | refine hd_Pick ?_ | refine hd_Res ?_ | refine hd_NilS ?_ | refine hd_NilP ?_ | refine hd_IxA ?_ | refine hd_LenT ?_ | refine hd_Rn ?_ | refine hd_Rv ?_ | refine hd_CallA ?_ | refine hd_CalmA ?_ | refine hd_Jv ?_); intro K Q hK hQ; simp only [d1, d2, Bool.and_false, d3, Bool.or_self, Bool.false_eq_true, if_false, List.getD_cons_succ, List.getD_cons_zero, nod_lists, nd_no, e_lenL, nod_imm, Try.underlying3, e_gtr, e_geq, e_gT, j_and', j_one]; subst hK hQ) | refine rn_go ?_ | refine rv_go ?_ | refine jv_go ?_)
    all_goals
      have lg0 : lgB l 0 = decide ((500 : Int) < l.length) := by
        unfold lgB
        simp
      have rt0 : rtB n r l 0 = (decide (1 ≤ n) && decide (0 ≤ r) && decide ((0 : Int) < l.length)) := by
        unfold rtB
        simp
      · repeat (with_reducible first | refine jn_go ?_ | refine ud_go ?_ | refine tr_go ?_ | ((first | refine hd_Bin ?_ | refine hd_Ld ?_ | refine hd_FA ?_ | refine hd_Un ?_ | refine hd_Ext ?_ | refine hd_Bx ?_ | refine hd_St ?_ | refine hd_Ix ?_ | refine hd_Cond ?_ | refine hd_G ?_ | refine hd_If ?_ | refine hd_Cd ?_ | refine hd_Ok ?_ | refine hd_Len ?_ | refine hd_Slc ?_ | refine hd_Mk ?_ | refine hd_BS ?_ | refine hd_Bd ?_ | refine hd_App ?_ | refine hd_MM ?_ | refine hd_CallG ?_ | refine hd_Cpy ?_ | refine hd_NC ?_ | refine hd_Cv ?_ | refine hd_Pick ?_ | refine hd_Res ?_ | refine hd_NilS ?_ | refine hd_NilP ?_ | refine hd_IxA ?_ | refine hd_LenT ?_ | refine hd_Rn ?_ | refine hd_Rv ?_ | refine hd_CallA ?_ | refine hd_CalmA ?_ | refine hd_Jv ?_); intro K Q hK hQ; simp only [Try.underlying3, Try.underlying4, Try.underlying22, Try.underlying25, j_one, j_side, j_tl, j_fl, nod_nod, nod_imm, nod_ints, nd_no, nd_own, nd_full, nd_fO, oF_ap, oF_succ, nod_arr_no, nod_arr_own, nod_arr_full, nod_sl, nod_ptr, nod_cptr, nod_fn, nod_junk, nodL_imm, nod_agg, nod_tup, nod2_imm, nod2_agg, cl_imm, cl_ints, cl_agg, e_add, e_sub, e_mul, e_quo, e_rem, e_eql, e_neq, e_lss, e_leq, e_gtr, e_geq, e_beq, e_bne, e_neg, e_not, e_pick, e_cond, e_gT, e_gF, e_len, e_lenA, e_lenS, e_ix, e_ixS, e_ldc, e_ldci, e_fa, e_mk, rep_cl, rep_I, e_bx, okE_I, okE_B, okE_E8, okE_ints, stV_imm, stV_ints, j_and', j_or', List.getD_cons_zero, List.getD_cons_succ, List.map_cons, List.map_nil, decide_eq_true_eq, Int.toNat_natCast, Nat.mul_one, Nat.zero_add, true_and, and_true, List.length_map, Bool.not_eq_true', decide_eq_false_iff_not, nod_lists, e_lenL, e_ixL, okE_lists, bs1, bs1L, bs2L, e_app, e_appL, e_app0, e_app0L, e_slcLo, e_slcHi, e_slcLH, e_slcHH, e_slcLHH, e_callG, e_callY, e_calmG, e_slS0, e_slSLo, e_slSHi, e_slSLH, e_slSHH, e_slSLHH, e_max2, e_min2, e_max3, e_x20, e_x21, e_x30, e_x31, e_x32, nod2_ints, nod2_lists, rep_fl, bs0, e_nilE, if_true, if_false, cond_true, cond_false, decide_true, decide_false, eq_self, Bool.false_eq_true, false_implies, true_implies, ap_own, ap_full, e_slcLoL, e_slcHiL, e_slcLHL, hp_assoc, hp_cons, hp_nil, hp_len, hp_len_cons, hp_len_nil, lv_cons, lv_nil, vs_0, vs_s, spl_s, spl_0, spl_n, dr_s, dr_0, tk_s, tk_0, e_bxI, e_fac, e_facA, e_ldcA, e_ldcL, e_ldcF, okE_agg, ck_I, ck_B, ck_ints, ck_lists, ck_arr, ck_ptr, ck_cptr, ck_fn, all_c, all_n, stV_agg, stV_lists, stV_arr, stV_ptr, stV_cptr, stV_fn, nodL_ints, nodL_lists, nodL_ptr, nodL_cptr, nodL_fn, nodL_arr0, cl_arr, cl_ptr, cl_cptr, cl_fn, cl_lists, okE_arr, okE_fn, okE_ptr, okE_cptr, e_bd0, e_bd1, Nat.reduceAdd, Nat.reduceLeDiff, Nat.reduceEqDiff, Nat.add_zero, Bool.and_self, Bool.true_and, Bool.and_true, e_lc0, e_lA0, e_lM0, e_sc0, e_rc0, e_rA0, e_lI0, e_sI0, e_cI0, e_lc1, e_lA1, e_lM1, e_sc1, e_rc1, e_rA1, e_lI1, e_sI1, e_cI1, e_lc2, e_lA2, e_lM2, e_sc2, e_rc2, e_rA2, e_lI2, e_sI2, e_cI2, e_lc3, e_lA3, e_lM3, e_sc3, e_rc3, e_rA3, e_lI3, e_sI3, e_cI3, e_lc4, e_lA4, e_lM4, e_sc4, e_rc4, e_rA4, e_lI4, e_sI4, e_cI4, e_lc5, e_lA5, e_lM5, e_sc5, e_rc5, e_rA5, e_lI5, e_sI5, e_cI5, own0_arr, own0_ints, own0_lists, own0_imm, own0_ptr, own0_cptr, own0_fn, own0_agg, reduceIte, Int.reduceEq, Int.reduceNeg, ne_eq, not_true_eq_false, not_false_eq_true, Bool.not_true, Bool.not_false, Bool.true_or, Bool.or_true, Bool.false_or, Bool.or_false, Bool.and_true, Bool.and_false, Bool.false_and, Bool.not_not, Bool.or_self, List.length_nil, Int.ofNat_zero, Int.cast_ofNat_Int, Int.natCast_zero, beq_self_eq_true, Bool.true_eq_false]; subst hK hQ) | refine rn_go ?_ | refine rv_go ?_ | refine jv_go ?_)
        refine loop_of (fun i : Nat => i ≤ l.length ∧ ∀ j, j < i → (l.getD j []).length ≤ 110000) (fun i => [I n, I r, lists l .no, B (lgB l i), B (rtB n r l i), I i]) (fun _ => H) (fun i => l.length - i) 0 ⟨by omega, fun j h => absurd h (Nat.not_lt_zero _)⟩ (by simp only [rt0, lg0]; rfl) rfl ?_
        intro i ⟨hi, hx⟩
        by_cases hlt : (i : Int) < l.length
        · have e1 := decide_eq_true hlt
          have hb := hMemL l (show i < l.length by omega)
          have lS := lgB_succ l i (by omega)
          have rS := rtB_succ n r l i (by omega)
          by_cases hbad : (decide ((60 : Int) < (l.getD i []).length) && decide (((l.getD i []).length : Int) ≤ 100000) || decide ((110000 : Int) < (l.getD i []).length)) = true
          · repeat (first | (with_reducible first | refine jn_go ?_ | refine ud_go ?_ | refine tr_go ?_ | ((first | refine hd_Bin ?_ | refine hd_Ld ?_ | refine hd_FA ?_ | refine hd_Un ?_ | refine hd_Ext ?_ | refine hd_Bx ?_ | refine hd_St ?_ | refine hd_Ix ?_ | refine hd_Cond ?_ | refine hd_G ?_ | refine hd_If ?_ | refine hd_Cd ?_ | refine hd_Ok ?_ | refine hd_Len ?_ | refine hd_Slc ?_ | refine hd_Mk ?_ | refine hd_BS ?_ | refine hd_Bd ?_ | refine hd_App ?_ | refine hd_MM ?_ | refine hd_CallG ?_ | refine hd_Cpy ?_ | refine hd_NC ?_ | refine hd_Cv ?_ | refine hd_Pick ?_ | refine hd_Res ?_ | refine hd_NilS ?_ | refine hd_NilP ?_ | refine hd_IxA ?_ | refine hd_LenT ?_ | refine hd_Rn ?_ | refine hd_Rv ?_ | refine hd_CallA ?_ | refine hd_CalmA ?_ | refine hd_Jv ?_); intro K Q hK hQ; simp only [List.getD_cons_succ, List.getD_cons_zero, nod_lists, nd_no, e_lenL, nod_imm, Try.underlying3, e_lss, e1, e_cond, if_true, e_ixL, Int.toNat_natCast, nod_cptr, e_ldci, nod_ints, e_len, e_gtr, e_leq, e_gT, j_tl, decide_eq_true_eq, j_and', j_side, j_one, e_gF, j_fl, j_or', hbad]; subst hK hQ) | refine rn_go ?_ | refine rv_go ?_ | refine jv_go ?_) | refine And.intro (by first | (unfold R64; omega) | omega | assumption | (intros; first | (unfold R64; omega) | omega) | (simp only [List.length_append, List.length_cons, List.length_nil, List.length_map, List.length_range]; omega)) ?_)
            refine call_of (c18 _) ?_
            with_reducible first | refine rv_go ?_ | refine rn_go ?_ | skip
            first | exact end1 (fzI _) | exact end1A (fzI _)
          · have hlen2 : (l.getD i []).length ≤ 110000 := by
              simp only [Bool.or_eq_true, Bool.and_eq_true, decide_eq_true_eq] at hbad
              omega
            have hbad := (Bool.not_eq_true _).mp hbad
            have hx2 : ∀ j, j < i + 1 → (l.getD j []).length ≤ 110000 := fun j hj => by
              by_cases e : j = i
              · subst e; exact hlen2
              · exact hx j (by omega)
            by_cases hrt : rtB n r l i = true
            · repeat (first | (with_reducible first | refine jn_go ?_ | refine ud_go ?_ | refine tr_go ?_ | ((first | refine hd_Bin ?_ | refine hd_Ld ?_ | refine hd_FA ?_ | refine hd_Un ?_ | refine hd_Ext ?_ | refine hd_Bx ?_ | refine hd_St ?_ | refine hd_Ix ?_ | refine hd_Cond ?_ | refine hd_G ?_ | refine hd_If ?_ | refine hd_Cd ?_ | refine hd_Ok ?_ | refine hd_Len ?_ | refine hd_Slc ?_ | refine hd_Mk ?_ | refine hd_BS ?_ | refine hd_Bd ?_ | refine hd_App ?_ | refine hd_MM ?_ | refine hd_CallG ?_ | refine hd_Cpy ?_ | refine hd_NC ?_ | refine hd_Cv ?_ | refine hd_Pick ?_ | refine hd_Res ?_ | refine hd_NilS ?_ | refine hd_NilP ?_ | refine hd_IxA ?_ | refine hd_LenT ?_ | refine hd_Rn ?_ | refine hd_Rv ?_ | refine hd_CallA ?_ | refine hd_CalmA ?_ | refine hd_Jv ?_); intro K Q hK hQ; simp only [hrt, List.getD_cons_succ, List.getD_cons_zero, nod_lists, nd_no, e_lenL, nod_imm, Try.underlying3, e_lss, e1, e_cond, if_true, e_ixL, Int.toNat_natCast, nod_cptr, e_ldci, nod_ints, e_len, e_gtr, e_leq, e_gT, j_tl, decide_eq_true_eq, j_and', j_side, j_one, e_gF, j_fl, j_or', hbad, Bool.false_eq_true, if_false, cond_true]; subst hK hQ) | refine rn_go ?_ | refine rv_go ?_ | refine jv_go ?_) | refine And.intro (by first | (unfold R64; omega) | omega | assumption | (intros; first | (unfold R64; omega) | omega) | (simp only [List.length_append, List.length_cons, List.length_nil, List.length_map, List.length_range]; omega)) ?_)
              refine call_of (c23 _ _ (by omega)) ?_
              repeat (first | (with_reducible first | refine jn_go ?_ | refine ud_go ?_ | refine tr_go ?_ | ((first | refine hd_Bin ?_ | refine hd_Ld ?_ | refine hd_FA ?_ | refine hd_Un ?_ | refine hd_Ext ?_ | refine hd_Bx ?_ | refine hd_St ?_ | refine hd_Ix ?_ | refine hd_Cond ?_ | refine hd_G ?_ | refine hd_If ?_ | refine hd_Cd ?_ | refine hd_Ok ?_ | refine hd_Len ?_ | refine hd_Slc ?_ | refine hd_Mk ?_ | refine hd_BS ?_ | refine hd_Bd ?_ | refine hd_App ?_ | refine hd_MM ?_ | refine hd_CallG ?_ | refine hd_Cpy ?_ | refine hd_NC ?_ | refine hd_Cv ?_ | refine hd_Pick ?_ | refine hd_Res ?_ | refine hd_NilS ?_ | refine hd_NilP ?_ | refine hd_IxA ?_ | refine hd_LenT ?_ | refine hd_Rn ?_ | refine hd_Rv ?_ | refine hd_CallA ?_ | refine hd_CalmA ?_ | refine hd_Jv ?_); intro K Q hK hQ; simp only [nod_imm, List.getD_cons_zero, List.getD_cons_succ, Try.underlying3, e_add]; subst hK hQ) | refine rn_go ?_ | refine rv_go ?_ | refine jv_go ?_) | refine And.intro (by first | (unfold R64; omega) | omega | assumption | (intros; first | (unfold R64; omega) | omega) | (simp only [List.length_append, List.length_cons, List.length_nil, List.length_map, List.length_range]; omega)) ?_)
              exact ⟨i + 1, ⟨by omega, hx2⟩, by simp only [lS, rS, hrt, Bool.true_and]; rfl, rfl, by omega⟩
            · have hrt := (Bool.not_eq_true _).mp hrt
              repeat (first | (with_reducible first | refine jn_go ?_ | refine ud_go ?_ | refine tr_go ?_ | ((first | refine hd_Bin ?_ | refine hd_Ld ?_ | refine hd_FA ?_ | refine hd_Un ?_ | refine hd_Ext ?_ | refine hd_Bx ?_ | refine hd_St ?_ | refine hd_Ix ?_ | refine hd_Cond ?_ | refine hd_G ?_ | refine hd_If ?_ | refine hd_Cd ?_ | refine hd_Ok ?_ | refine hd_Len ?_ | refine hd_Slc ?_ | refine hd_Mk ?_ | refine hd_BS ?_ | refine hd_Bd ?_ | refine hd_App ?_ | refine hd_MM ?_ | refine hd_CallG ?_ | refine hd_Cpy ?_ | refine hd_NC ?_ | refine hd_Cv ?_ | refine hd_Pick ?_ | refine hd_Res ?_ | refine hd_NilS ?_ | refine hd_NilP ?_ | refine hd_IxA ?_ | refine hd_LenT ?_ | refine hd_Rn ?_ | refine hd_Rv ?_ | refine hd_CallA ?_ | refine hd_CalmA ?_ | refine hd_Jv ?_); intro K Q hK hQ; simp only [hrt, List.getD_cons_succ, List.getD_cons_zero, nod_lists, nd_no, e_lenL, nod_imm, Try.underlying3, e_lss, e1, e_cond, if_true, e_ixL, Int.toNat_natCast, nod_cptr, e_ldci, nod_ints, e_len, e_gtr, e_leq, e_gT, j_tl, decide_eq_true_eq, j_and', j_side, j_one, e_gF, j_fl, j_or', hbad, Bool.false_eq_true, if_false, cond_false, e_add]; subst hK hQ) | refine rn_go ?_ | refine rv_go ?_ | refine jv_go ?_) | refine And.intro (by first | (unfold R64; omega) | omega | assumption | (intros; first | (unfold R64; omega) | omega) | (simp only [List.length_append, List.length_cons, List.length_nil, List.length_map, List.length_range]; omega)) ?_)
              exact ⟨i + 1, ⟨by omega, hx2⟩, by simp only [lS, rS, hrt, Bool.false_and]; rfl, rfl, by omega⟩
        · have e1 := decide_eq_false hlt
          have : i = l.length := by omega
          subst this
          have hx1 : ∀ x, x ∈ l → x.length ≤ 1000000000 := fun x hm => by
            obtain ⟨j, hj, rfl⟩ := List.mem_iff_getElem.1 hm
            have := hx j hj
            rw [List.getD_eq_getElem?_getD, List.getElem?_eq_getElem hj] at this
            simp only [Option.getD_some] at this
            omega
          have g := fun H => c24 l n r H hx1
          by_cases hlg : lgB l l.length = true
          · rw [chain_long hlg] at g
            repeat (first | (with_reducible first | refine jn_go ?_ | refine ud_go ?_ | refine tr_go ?_ | ((first | refine hd_Bin ?_ | refine hd_Ld ?_ | refine hd_FA ?_ | refine hd_Un ?_ | refine hd_Ext ?_ | refine hd_Bx ?_ | refine hd_St ?_ | refine hd_Ix ?_ | refine hd_Cond ?_ | refine hd_G ?_ | refine hd_If ?_ | refine hd_Cd ?_ | refine hd_Ok ?_ | refine hd_Len ?_ | refine hd_Slc ?_ | refine hd_Mk ?_ | refine hd_BS ?_ | refine hd_Bd ?_ | refine hd_App ?_ | refine hd_MM ?_ | refine hd_CallG ?_ | refine hd_Cpy ?_ | refine hd_NC ?_ | refine hd_Cv ?_ | refine hd_Pick ?_ | refine hd_Res ?_ | refine hd_NilS ?_ | refine hd_NilP ?_ | refine hd_IxA ?_ | refine hd_LenT ?_ | refine hd_Rn ?_ | refine hd_Rv ?_ | refine hd_CallA ?_ | refine hd_CalmA ?_ | refine hd_Jv ?_); intro K Q hK hQ; simp only [List.getD_cons_succ, List.getD_cons_zero, nod_lists, nd_no, e_lenL, nod_imm, Try.underlying3, e_lss, e1, e_cond, Bool.false_eq_true, if_false]; subst hK hQ) | refine rn_go ?_ | refine rv_go ?_ | refine jv_go ?_) | refine And.intro (by first | (unfold R64; omega) | omega | assumption | (intros; first | (unfold R64; omega) | omega) | (simp only [List.length_append, List.length_cons, List.length_nil, List.length_map, List.length_range]; omega)) ?_)
            refine call_of (g _) ?_
            repeat (first | (with_reducible first | refine jn_go ?_ | refine ud_go ?_ | refine tr_go ?_ | ((first | refine hd_Bin ?_ | refine hd_Ld ?_ | refine hd_FA ?_ | refine hd_Un ?_ | refine hd_Ext ?_ | refine hd_Bx ?_ | refine hd_St ?_ | refine hd_Ix ?_ | refine hd_Cond ?_ | refine hd_G ?_ | refine hd_If ?_ | refine hd_Cd ?_ | refine hd_Ok ?_ | refine hd_Len ?_ | refine hd_Slc ?_ | refine hd_Mk ?_ | refine hd_BS ?_ | refine hd_Bd ?_ | refine hd_App ?_ | refine hd_MM ?_ | refine hd_CallG ?_ | refine hd_Cpy ?_ | refine hd_NC ?_ | refine hd_Cv ?_ | refine hd_Pick ?_ | refine hd_Res ?_ | refine hd_NilS ?_ | refine hd_NilP ?_ | refine hd_IxA ?_ | refine hd_LenT ?_ | refine hd_Rn ?_ | refine hd_Rv ?_ | refine hd_CallA ?_ | refine hd_CalmA ?_ | refine hd_Jv ?_); intro K Q hK hQ; simp only [nod_tup, List.map_cons, nod2_ints, nd_no, nod2_imm, List.map_nil, e_x30, e_x31, e_x32, hlg, List.getD_cons_zero, List.getD_cons_succ, nod_imm, e_cond, if_true, Try.underlying25, e_eql, decide_true, nod_ints, Try.underlying3, e_len, List.length_nil, Int.cast_ofNat_Int, e_add, e_gT, cond_true, j_side, j_one]; subst hK hQ) | refine rn_go ?_ | refine rv_go ?_ | refine jv_go ?_) | refine And.intro (by first | (unfold R64; omega) | omega | assumption | (intros; first | (unfold R64; omega) | omega) | (simp only [List.length_append, List.length_cons, List.length_nil, List.length_map, List.length_range]; omega)) ?_)
            refine call_of (c18 _) ?_
            with_reducible first | refine rv_go ?_ | refine rn_go ?_ | skip
            first | exact end1 (fzI _) | exact end1A (fzI _)
          · have hlg := (Bool.not_eq_true _).mp hlg
            by_cases hrt : rtB n r l l.length = true
            · obtain ⟨q1, q2, q3, q4, q5, q6⟩ := chain_right hlg hrt
              have g2 := fun H => c25 l n r H q2 q3 q4 q5 q6
              rw [q1] at g
              have z := chainS_len (n := n) (r := r) l.tail (l.getD 0 []) [0] ((wavesE_zero q2 _ (hMemL l (List.length_pos_iff.2 q4))).1)
              have z2 := List.length_tail (l := l)
              simp only [List.length_cons, List.length_nil] at z
              generalize chainS n r l.tail (l.getD 0 []) [0] = c at *
              repeat (first | (with_reducible first | refine jn_go ?_ | refine ud_go ?_ | refine tr_go ?_ | ((first | refine hd_Bin ?_ | refine hd_Ld ?_ | refine hd_FA ?_ | refine hd_Un ?_ | refine hd_Ext ?_ | refine hd_Bx ?_ | refine hd_St ?_ | refine hd_Ix ?_ | refine hd_Cond ?_ | refine hd_G ?_ | refine hd_If ?_ | refine hd_Cd ?_ | refine hd_Ok ?_ | refine hd_Len ?_ | refine hd_Slc ?_ | refine hd_Mk ?_ | refine hd_BS ?_ | refine hd_Bd ?_ | refine hd_App ?_ | refine hd_MM ?_ | refine hd_CallG ?_ | refine hd_Cpy ?_ | refine hd_NC ?_ | refine hd_Cv ?_ | refine hd_Pick ?_ | refine hd_Res ?_ | refine hd_NilS ?_ | refine hd_NilP ?_ | refine hd_IxA ?_ | refine hd_LenT ?_ | refine hd_Rn ?_ | refine hd_Rv ?_ | refine hd_CallA ?_ | refine hd_CalmA ?_ | refine hd_Jv ?_); intro K Q hK hQ; simp only [List.getD_cons_succ, List.getD_cons_zero, nod_lists, nd_no, e_lenL, nod_imm, Try.underlying3, e_lss, e1, e_cond, Bool.false_eq_true, if_false]; subst hK hQ) | refine rn_go ?_ | refine rv_go ?_ | refine jv_go ?_) | refine And.intro (by first | (unfold R64; omega) | omega | assumption | (intros; first | (unfold R64; omega) | omega) | (simp only [List.length_append, List.length_cons, List.length_nil, List.length_map, List.length_range]; omega)) ?_)
              refine call_of (g _) ?_
              repeat (first | (with_reducible first | refine jn_go ?_ | refine ud_go ?_ | refine tr_go ?_ | ((first | refine hd_Bin ?_ | refine hd_Ld ?_ | refine hd_FA ?_ | refine hd_Un ?_ | refine hd_Ext ?_ | refine hd_Bx ?_ | refine hd_St ?_ | refine hd_Ix ?_ | refine hd_Cond ?_ | refine hd_G ?_ | refine hd_If ?_ | refine hd_Cd ?_ | refine hd_Ok ?_ | refine hd_Len ?_ | refine hd_Slc ?_ | refine hd_Mk ?_ | refine hd_BS ?_ | refine hd_Bd ?_ | refine hd_App ?_ | refine hd_MM ?_ | refine hd_CallG ?_ | refine hd_Cpy ?_ | refine hd_NC ?_ | refine hd_Cv ?_ | refine hd_Pick ?_ | refine hd_Res ?_ | refine hd_NilS ?_ | refine hd_NilP ?_ | refine hd_IxA ?_ | refine hd_LenT ?_ | refine hd_Rn ?_ | refine hd_Rv ?_ | refine hd_CallA ?_ | refine hd_CalmA ?_ | refine hd_Jv ?_); intro K Q hK hQ; simp only [nod_tup, List.map_cons, nod2_ints, nd_no, nod2_imm, List.map_nil, e_x30, e_x31, e_x32, hlg, hrt, List.getD_cons_zero, List.getD_cons_succ, nod_imm, e_cond, Bool.false_eq_true, if_false, e_not, Bool.not_true, nod_lists]; subst hK hQ) | refine rn_go ?_ | refine rv_go ?_ | refine jv_go ?_) | refine And.intro (by first | (unfold R64; omega) | omega | assumption | (intros; first | (unfold R64; omega) | omega) | (simp only [List.length_append, List.length_cons, List.length_nil, List.length_map, List.length_range]; omega)) ?_)
              refine call_of (g2 _) ?_
              repeat (first | (with_reducible first | refine jn_go ?_ | refine ud_go ?_ | refine tr_go ?_ | ((first | refine hd_Bin ?_ | refine hd_Ld ?_ | refine hd_FA ?_ | refine hd_Un ?_ | refine hd_Ext ?_ | refine hd_Bx ?_ | refine hd_St ?_ | refine hd_Ix ?_ | refine hd_Cond ?_ | refine hd_G ?_ | refine hd_If ?_ | refine hd_Cd ?_ | refine hd_Ok ?_ | refine hd_Len ?_ | refine hd_Slc ?_ | refine hd_Mk ?_ | refine hd_BS ?_ | refine hd_Bd ?_ | refine hd_App ?_ | refine hd_MM ?_ | refine hd_CallG ?_ | refine hd_Cpy ?_ | refine hd_NC ?_ | refine hd_Cv ?_ | refine hd_Pick ?_ | refine hd_Res ?_ | refine hd_NilS ?_ | refine hd_NilP ?_ | refine hd_IxA ?_ | refine hd_LenT ?_ | refine hd_Rn ?_ | refine hd_Rv ?_ | refine hd_CallA ?_ | refine hd_CalmA ?_ | refine hd_Jv ?_); intro K Q hK hQ; simp only [nod_tup, List.map_cons, nod2_ints, nd_no, nod2_imm, List.map_nil, e_x30, e_x31, e_x32, List.getD_cons_succ, List.getD_cons_zero, nod_imm, Try.underlying25, e_eql, decide_true, nod_ints, e_gT, cond_true]; subst hK hQ) | refine rn_go ?_ | refine rv_go ?_ | refine jv_go ?_) | refine And.intro (by first | (unfold R64; omega) | omega | assumption | (intros; first | (unfold R64; omega) | omega) | (simp only [List.length_append, List.length_cons, List.length_nil, List.length_map, List.length_range]; omega)) ?_)
              refine call_of (k21 _ .no _ (by omega)) ?_
              repeat (first | (with_reducible first | refine jn_go ?_ | refine ud_go ?_ | refine tr_go ?_ | ((first | refine hd_Bin ?_ | refine hd_Ld ?_ | refine hd_FA ?_ | refine hd_Un ?_ | refine hd_Ext ?_ | refine hd_Bx ?_ | refine hd_St ?_ | refine hd_Ix ?_ | refine hd_Cond ?_ | refine hd_G ?_ | refine hd_If ?_ | refine hd_Cd ?_ | refine hd_Ok ?_ | refine hd_Len ?_ | refine hd_Slc ?_ | refine hd_Mk ?_ | refine hd_BS ?_ | refine hd_Bd ?_ | refine hd_App ?_ | refine hd_MM ?_ | refine hd_CallG ?_ | refine hd_Cpy ?_ | refine hd_NC ?_ | refine hd_Cv ?_ | refine hd_Pick ?_ | refine hd_Res ?_ | refine hd_NilS ?_ | refine hd_NilP ?_ | refine hd_IxA ?_ | refine hd_LenT ?_ | refine hd_Rn ?_ | refine hd_Rv ?_ | refine hd_CallA ?_ | refine hd_CalmA ?_ | refine hd_Jv ?_); intro K Q hK hQ; simp only [nod_imm, List.getD_cons_succ, List.getD_cons_zero, nod_ints, nd_no, e_gT, cond_true]; subst hK hQ) | refine rn_go ?_ | refine rv_go ?_ | refine jv_go ?_) | refine And.intro (by first | (unfold R64; omega) | omega | assumption | (intros; first | (unfold R64; omega) | omega) | (simp only [List.length_append, List.length_cons, List.length_nil, List.length_map, List.length_range]; omega)) ?_)
              refine call_of (k21 _ .no _ (by omega)) ?_
              repeat (first | (with_reducible first | refine jn_go ?_ | refine ud_go ?_ | refine tr_go ?_ | ((first | refine hd_Bin ?_ | refine hd_Ld ?_ | refine hd_FA ?_ | refine hd_Un ?_ | refine hd_Ext ?_ | refine hd_Bx ?_ | refine hd_St ?_ | refine hd_Ix ?_ | refine hd_Cond ?_ | refine hd_G ?_ | refine hd_If ?_ | refine hd_Cd ?_ | refine hd_Ok ?_ | refine hd_Len ?_ | refine hd_Slc ?_ | refine hd_Mk ?_ | refine hd_BS ?_ | refine hd_Bd ?_ | refine hd_App ?_ | refine hd_MM ?_ | refine hd_CallG ?_ | refine hd_Cpy ?_ | refine hd_NC ?_ | refine hd_Cv ?_ | refine hd_Pick ?_ | refine hd_Res ?_ | refine hd_NilS ?_ | refine hd_NilP ?_ | refine hd_IxA ?_ | refine hd_LenT ?_ | refine hd_Rn ?_ | refine hd_Rv ?_ | refine hd_CallA ?_ | refine hd_CalmA ?_ | refine hd_Jv ?_); intro K Q hK hQ; simp only [nod_imm, e_gT, cond_true]; subst hK hQ) | refine rn_go ?_ | refine rv_go ?_ | refine jv_go ?_) | refine And.intro (by first | (unfold R64; omega) | omega | assumption | (intros; first | (unfold R64; omega) | omega) | (simp only [List.length_append, List.length_cons, List.length_nil, List.length_map, List.length_range]; omega)) ?_)
              refine call_of (c18 _) ?_
              with_reducible first | refine rv_go ?_ | refine rn_go ?_ | skip
              first | exact end1 (fzI _) | exact end1A (fzI _)
            · have hrt := (Bool.not_eq_true _).mp hrt
              rw [chain_wrong hlg hrt] at g
              repeat (first | (with_reducible first | refine jn_go ?_ | refine ud_go ?_ | refine tr_go ?_ | ((first | refine hd_Bin ?_ | refine hd_Ld ?_ | refine hd_FA ?_ | refine hd_Un ?_ | refine hd_Ext ?_ | refine hd_Bx ?_ | refine hd_St ?_ | refine hd_Ix ?_ | refine hd_Cond ?_ | refine hd_G ?_ | refine hd_If ?_ | refine hd_Cd ?_ | refine hd_Ok ?_ | refine hd_Len ?_ | refine hd_Slc ?_ | refine hd_Mk ?_ | refine hd_BS ?_ | refine hd_Bd ?_ | refine hd_App ?_ | refine hd_MM ?_ | refine hd_CallG ?_ | refine hd_Cpy ?_ | refine hd_NC ?_ | refine hd_Cv ?_ | refine hd_Pick ?_ | refine hd_Res ?_ | refine hd_NilS ?_ | refine hd_NilP ?_ | refine hd_IxA ?_ | refine hd_LenT ?_ | refine hd_Rn ?_ | refine hd_Rv ?_ | refine hd_CallA ?_ | refine hd_CalmA ?_ | refine hd_Jv ?_); intro K Q hK hQ; simp only [List.getD_cons_succ, List.getD_cons_zero, nod_lists, nd_no, e_lenL, nod_imm, Try.underlying3, e_lss, e1, e_cond, Bool.false_eq_true, if_false]; subst hK hQ) | refine rn_go ?_ | refine rv_go ?_ | refine jv_go ?_) | refine And.intro (by first | (unfold R64; omega) | omega | assumption | (intros; first | (unfold R64; omega) | omega) | (simp only [List.length_append, List.length_cons, List.length_nil, List.length_map, List.length_range]; omega)) ?_)
              refine call_of (g _) ?_
              repeat (first | (with_reducible first | refine jn_go ?_ | refine ud_go ?_ | refine tr_go ?_ | ((first | refine hd_Bin ?_ | refine hd_Ld ?_ | refine hd_FA ?_ | refine hd_Un ?_ | refine hd_Ext ?_ | refine hd_Bx ?_ | refine hd_St ?_ | refine hd_Ix ?_ | refine hd_Cond ?_ | refine hd_G ?_ | refine hd_If ?_ | refine hd_Cd ?_ | refine hd_Ok ?_ | refine hd_Len ?_ | refine hd_Slc ?_ | refine hd_Mk ?_ | refine hd_BS ?_ | refine hd_Bd ?_ | refine hd_App ?_ | refine hd_MM ?_ | refine hd_CallG ?_ | refine hd_Cpy ?_ | refine hd_NC ?_ | refine hd_Cv ?_ | refine hd_Pick ?_ | refine hd_Res ?_ | refine hd_NilS ?_ | refine hd_NilP ?_ | refine hd_IxA ?_ | refine hd_LenT ?_ | refine hd_Rn ?_ | refine hd_Rv ?_ | refine hd_CallA ?_ | refine hd_CalmA ?_ | refine hd_Jv ?_); intro K Q hK hQ; simp only [nod_tup, List.map_cons, nod2_ints, nd_no, nod2_imm, List.map_nil, e_x30, e_x31, e_x32, hlg, hrt, List.getD_cons_zero, List.getD_cons_succ, nod_imm, e_cond, Bool.false_eq_true, if_false, e_not, Bool.not_false, if_true, Try.underlying25, e_eql, decide_true, nod_ints, Try.underlying3, e_len, List.length_nil, Int.cast_ofNat_Int, e_add, e_gT, cond_true, j_side, j_one]; subst hK hQ) | refine rn_go ?_ | refine rv_go ?_ | refine jv_go ?_) | refine And.intro (by first | (unfold R64; omega) | omega | assumption | (intros; first | (unfold R64; omega) | omega) | (simp only [List.length_append, List.length_cons, List.length_nil, List.length_map, List.length_range]; omega)) ?_)
              refine call_of (c18 _) ?_
              with_reducible first | refine rv_go ?_ | refine rn_go ?_ | skip
              first | exact end1 (fzI _) | exact end1A (fzI _)
  · by_cases h1 : (600 : Int) < l.length
    · have d1 : decide ((6 : Int) < l.length) = true := decide_eq_true (by omega)
      have d2 : decide ((l.length : Int) ≤ 500) = false := decide_eq_false (by omega)
      have d3 := decide_eq_true h1
      repeat (with_reducible first | refine jn_go ?_ | refine ud_go ?_ | refine tr_go ?_ | ((first | refine hd_Bin ?_ | refine hd_Ld ?_ | refine hd_FA ?_ | refine hd_Un ?_ | refine hd_Ext ?_ | refine hd_Bx ?_ | refine hd_St ?_ | refine hd_Ix ?_ | refine hd_Cond ?_ | refine hd_G ?_ | refine hd_If ?_ | refine hd_Cd ?_ | refine hd_Ok ?_ | refine hd_Len ?_ | refine hd_Slc ?_ | refine hd_Mk ?_ | refine hd_BS ?_ | refine hd_Bd ?_ | refine hd_App ?_ | refine hd_MM ?_ | refine hd_CallG ?_ | refine hd_Cpy ?_ | refine hd_NC ?_ | refine hd_Cv ?_ | refine hd_Pick ?_ | refine hd_Res ?_ | refine hd_NilS ?_ | refine hd_NilP ?_ | refine hd_IxA ?_ | refine hd_LenT ?_ | refine hd_Rn ?_ | refine hd_Rv ?_ | refine hd_CallA ?_ | refine hd_CalmA ?_ | refine hd_Jv ?_); intro K Q hK hQ; simp only [d1, d2, Bool.and_false, d3, Bool.or_true, if_true]; subst hK hQ) | refine rn_go ?_ | refine rv_go ?_ | refine jv_go ?_)
      refine call_of (c18 _) ?_
      with_reducible first | refine rv_go ?_ | refine rn_go ?_ | skip
      first | exact end1 (fzI _) | exact end1A (fzI _)
    · have d1 : decide ((6 : Int) < l.length) = true := decide_eq_true (by omega)
      have d2 : decide ((l.length : Int) ≤ 500) = true := decide_eq_true (by omega)
      repeat (with_reducible first | refine jn_go ?_ | refine ud_go ?_ | refine tr_go ?_ | ((first | refine hd_Bin ?_ | refine hd_Ld ?_ | refine hd_FA ?_ | refine hd_Un ?_ | refine hd_Ext ?_ | refine hd_Bx ?_ | refine hd_St ?_ | refine hd_Ix ?_ | refine hd_Cond ?_ | refine hd_G ?_ | refine hd_If ?_ | refine hd_Cd ?_ | refine hd_Ok ?_ | refine hd_Len ?_ | refine hd_Slc ?_ | refine hd_Mk ?_ | refine hd_BS ?_ | refine hd_Bd ?_ | refine hd_App ?_ | refine hd_MM ?_ | refine hd_CallG ?_ | refine hd_Cpy ?_ | refine hd_NC ?_ | refine hd_Cv ?_ | refine hd_Pick ?_ | refine hd_Res ?_ | refine hd_NilS ?_ | refine hd_NilP ?_ | refine hd_IxA ?_ | refine hd_LenT ?_ | refine hd_Rn ?_ | refine hd_Rv ?_ | refine hd_CallA ?_ | refine hd_CalmA ?_ | refine hd_Jv ?_); intro K Q hK hQ; simp only [d1, d2, Bool.and_self, Bool.true_or, if_true]; subst hK hQ) | refine rn_go ?_ | refine rv_go ?_ | refine jv_go ?_)
      refine call_of (c18 _) ?_
      with_reducible first | refine rv_go ?_ | refine rn_go ?_ | skip
      first | exact end1 (fzI _) | exact end1A (fzI _)
end Go.Proofs.Ytehjfjdknllmhaa
