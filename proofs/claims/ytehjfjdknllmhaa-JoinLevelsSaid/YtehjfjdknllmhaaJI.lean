/- Contracts of join's functions, fifth part: marked waves. -/
import Derived.Test.YtehjfjdknllmhaaJH
set_option linter.unusedVariables false
set_option linter.unusedSimpArgs false
set_option linter.unnecessarySimpa false
set_option maxRecDepth 20000
set_option maxHeartbeats 2000000
namespace Go.Proofs.Ytehjfjdknllmhaa
open Go Go.Ab Go.Proofs
attribute [local congr] g_bin g_nilS g_nilP g_un g_ext g_bx g_fa g_ld g_st g_ix g_ixA g_slc g_mk g_bs g_bd g_nc g_cv g_len g_lenT g_app g_appB g_cpy g_mm g_call g_callG g_calm g_calmG g_range g_res g_pick g_cond g_loop g_Jv
abbrev mkd (s m : List Int) : V := .agg [ints s .no, ints m .no]
theorem fzM {n : Nat} {H : Hp} (s m : List Int) (f g : Fl) : Fz n H (V.agg [ints s f, ints m g]) (mkd s m) := by
  refine .agg _ _ rfl (fun i c c' h1 h2 => ?_)
  match i with
  | 0 => simp at h1 h2; subst h1 h2; exact end_any
  | 1 => simp at h1 h2; subst h1 h2; exact end_any
  | i + 2 => simp at h2
theorem fzMn {n : Nat} {H : Hp} (s m : List Int) (f g : Fl) : Fz n H (V.agg [ints s f, ints m g]).nod (mkd s m) := by
  simp only [nod_agg, List.map_cons, List.map_nil, nodL_ints]; exact fzM s m _ _
theorem fzM0 {n : Nat} {H : Hp} : Fz n H (V.agg [V.arr [] .full, V.arr [] .full]).nod (mkd [] []) := fzMn [] [] .full .full
theorem end1 {H : Hp} {a a' : V} (h : Fz H.length H a a') : retF a' H [a] H := ⟨h, by simp⟩
theorem end1A {H : Hp} {a a' : V} {L : List Blk} (h : Fz H.length (H ++ L) a a') : retF a' H [a] (H ++ L) := ⟨h, by simp⟩
theorem Mnd (s m : List Int) : (mkd s m).Nd := rfl

/-! ### Equal lists -/
theorem c21 (a b : List Int) (H : Hp) (ha : a.length ≤ 1000000000) : Ret Try.prog 21 [ints a .no, ints b .no] H (B (decide (a = b))) H := by
  refine mk21 _ _ rfl (Nat.le_refl _) (.inl rfl) ?_
  simp only [vc21, real]
  simp only [nod_ints, nd_no, Try.underlying3, nod_nod, Jn, List.getD_cons_succ, List.getD_cons_zero, e_len, nod_imm, e_neq, e_cond, Bool.not_eq_true', decide_eq_false_iff_not]
  split
  · rename_i h
    refine end_keep (.imm _) ?_
    have : a ≠ b := fun e => h (by rw [e])
    simp [oneV, this]
  · rename_i h
    have hab : a.length = b.length := by omega
    refine loop_of (fun i : Nat => i ≤ a.length ∧ ∀ j : Nat, j < i → a.getD j 0 = b.getD j 0) (fun i => [ints a .no, ints b .no, I i]) (fun _ => H) (fun i => a.length - i) 0 ⟨Nat.zero_le _, fun j h => absurd h (Nat.not_lt_zero _)⟩ rfl rfl ?_
    intro i ⟨hi, hp⟩
    simp only [List.getD_cons_zero, nod_ints, nd_no, List.getD_cons_succ, nod_imm, e_add, e_ix, Int.toNat_natCast, nod_cptr, e_ldc, true_and, e_neq, e_cond, Bool.not_eq_true', decide_eq_false_iff_not, e_len, e_lss, decide_eq_true_eq]
    split
    · rename_i hlt
      refine ⟨by omega, by omega, by omega, by omega, ?_⟩
      split
      · rename_i hne
        refine end_keep (.imm _) ?_
        have : a ≠ b := fun e => hne (by rw [e])
        simp [oneV, this]
      · rename_i heq
        refine ⟨(by unfold R64; omega), i + 1, ⟨by omega, fun j hj => ?_⟩, by simp, by omega⟩
        by_cases e : j = i
        · subst e; simpa using heq
        · exact hp j (by omega)
    · refine end_keep (.imm _) ?_
      have : a = b := List.ext_getElem? fun j => by
        by_cases hj : j < a.length
        · rw [getD_some a hj, getD_some b (by omega), hp j (by omega)]
        · rw [List.getElem?_eq_none (by omega), List.getElem?_eq_none (by omega)]
      simp [oneV, this]
theorem c31 (a b c d : List Int) (H : Hp) (ha : a.length ≤ 1000000000) (hb : b.length ≤ 1000000000) : Ret Try.prog 31 [mkd a b, mkd c d] H (B (decide (a = c) && decide (b = d))) H := by
  refine mk31 _ _ rfl (Nat.le_refl _) (.inl rfl) ?_
  simp only [vc31, real]
  simp only [nod_agg, List.map_cons, nodL_ints, nd_no, List.map_nil, e_bxI, okE_agg, lv_cons, lv_nil, Nat.zero_add, Nat.reduceAdd, all_c, ck_ints, all_n, Bool.and_self, and_true, nod_cptr, e_fac, Nat.reduceLeDiff, List.getD_cons_succ, List.getD_cons_zero, e_ldci, nod_ints, true_and]
  refine call_of (c21 a c H ha) ?_
  simp only [e_Jv]
  simp only [nod_imm, e_gT]
  by_cases h : a = c
  · simp only [h, decide_true, cond_true, Bool.true_and]
    refine call_of (c21 b d H hb) ?_
    exact end_keep (.imm _) rfl
  · simp only [h, decide_false, cond_false, Bool.false_and]
    exact end_keep (.imm _) rfl
def shortB (l : List Int) : Bool := decide ((l.length : Int) ≤ 400) || (decide ((100000 : Int) < l.length) && decide ((l.length : Int) < 110000))
theorem c17 (l : List Int) (H : Hp) : Ret Try.prog 17 [ints l .no] H (B (shortB l)) H := by
  refine mk17 _ rfl (Nat.le_refl _) (.inl rfl) ?_
  simp only [vc17, real]
  simp only [nod_ints, nd_no, Try.underlying3, nod_nod, e_len, nod_imm, e_lss, e_gtr, e_gT, j_and', true_and, e_leq, e_gF, j_or', j_one]
  exact end_keep (.imm _) rfl
theorem c33 (s m : List Int) (H : Hp) : Ret Try.prog 33 [mkd s m] H (B (shortB s && decide ((m.length : Int) ≤ 500))) H := by
  refine mk33 _ rfl (Nat.le_refl _) (.inl rfl) ?_
  simp only [vc33, real]
  simp only [nod_agg, List.map_cons, nodL_ints, nd_no, List.map_nil, Try.underlying3, e_bxI, okE_agg, lv_cons, lv_nil, Nat.zero_add, Nat.reduceAdd, all_c, ck_ints, all_n, Bool.and_self, and_true, nod_cptr, e_fac, Nat.reduceLeDiff, List.getD_cons_succ, List.getD_cons_zero, e_ldci, nod_ints, e_len, nod_imm, e_leq, true_and]
  refine call_of (c17 s H) ?_
  simp only [e_Jv]
  simp only [nod_imm, e_gT]
  by_cases h : shortB s = true
  · simp only [h, cond_true, Bool.true_and]
    exact end_keep (.imm _) rfl
  · simp only [h, cond_false, Bool.false_and]
    exact end_keep (.imm _) rfl
theorem c29 (s m : List Int) (H : Hp) (hs : s.length ≤ 1000000000) (hm : m.length ≤ 1000000000) : Ret Try.prog 29 [mkd s m] H (B (decide ((s.length : Int) + m.length = 0))) H := by
  refine mk29 _ rfl (Nat.le_refl _) (.inl rfl) ?_
  simp only [vc29, real]
  simp only [nod_agg, List.map_cons, nodL_ints, nd_no, List.map_nil, Try.underlying3, e_bxI, okE_agg, lv_cons, lv_nil, Nat.zero_add, Nat.reduceAdd, all_c, ck_ints, all_n, Bool.and_self, and_true, nod_cptr, e_fac, Nat.reduceLeDiff, List.getD_cons_succ, List.getD_cons_zero, e_ldci, nod_ints, e_len, nod_imm, true_and, e_add, e_eql]
  exact ⟨(by unfold R64; omega), end_keep (.imm _) rfl⟩
def wrongE (a b : List Int) : Int := if 100000 < a.length ∨ 100000 < b.length then 4 else if okS a = true ∧ okS b = true then 0 else 2
theorem wavesE_two (a b : List Int) : wavesE [a, b] = wrongE a b := by
  unfold wavesE wrongE waveE
  simp only [List.any_cons, List.any_nil, Bool.or_false]
  by_cases h1 : 100000 < a.length <;> by_cases h2 : 100000 < b.length <;> simp [h1, h2]
  cases okS a <;> cases okS b <;> simp
theorem c20 (a b : List Int) (H : Hp) (ha : a.length ≤ 1000000000) (hb : b.length ≤ 1000000000) : Ret Try.prog 20 [ints a .no, ints b .no] H (I (wrongE a b)) H := by
  refine mk20 _ _ rfl (Nat.le_refl _) (.inl rfl) ?_
  simp only [vc20, real]
  simp only [Jn, nod_ints, nd_no, Try.underlying3, e_len, nod_imm, e_gtr, List.getD_cons_succ, List.getD_cons_zero, e_gF, j_or', j_one, e_cond]
  unfold wrongE
  by_cases h0 : 100000 < a.length ∨ 100000 < b.length
  · rw [if_pos (by simp only [Bool.or_eq_true, Bool.and_eq_true, Bool.not_eq_true', Bool.or_eq_false_iff, Bool.and_eq_false_iff, decide_eq_false_iff_not, decide_eq_true_eq, Bool.not_eq_true]; omega), if_pos h0]
    exact end_keep (.imm _) rfl
  · rw [if_neg (by simp only [Bool.or_eq_true, Bool.and_eq_true, Bool.not_eq_true', Bool.or_eq_false_iff, Bool.and_eq_false_iff, decide_eq_false_iff_not, decide_eq_true_eq, Bool.not_eq_true]; omega), if_neg h0]
    refine call_of (c23 a H ha) ?_
    simp only [e_Jv]
    simp only [nod_imm, nod_nod, e_cond, if_true, e_not, e_gF]
    by_cases h1 : okS a = true
    · simp only [h1, Bool.not_true, cond_false, true_and]
      refine call_of (c23 b H hb) ?_
      simp only [nod_imm, e_not, e_cond, Bool.not_eq_true']
      by_cases h2 : okS b = true
      · rw [if_neg (by simp [h2]), if_pos h2]
        exact end_keep (.imm _) rfl
      · rw [if_pos (by simpa using h2), if_neg h2]
        exact end_keep (.imm _) rfl
    · simp only [h1, Bool.not_false, cond_true, false_and, if_false]
      try simp only [Bool.false_eq_true]
      exact end_keep (.imm _) rfl

/-! ### Marks -/
def mkAt (n : Int) (m : List Int) (i : Nat) : Bool := decide (0 ≤ m.getD i 0) && decide (m.getD i 0 ≤ n) && (decide (i = 0) || decide (m.getD (i - 1) 0 < m.getD i 0))
def mkB (n : Int) (m : List Int) : Bool := decide (2 ≤ m.length) && (List.range m.length).all (mkAt n m)
def markE (s m : List Int) : Int := if waveE s ≠ 0 then waveE s else if mkB s.length m = true then 0 else 2
theorem mkAt_iff (n : Int) (m : List Int) (i : Nat) : mkAt n m i = true ↔ 0 ≤ m.getD i 0 ∧ m.getD i 0 ≤ n ∧ (i = 0 ∨ m.getD (i - 1) 0 < m.getD i 0) := by
  unfold mkAt
  simp only [Bool.and_eq_true, Bool.or_eq_true, decide_eq_true_eq]
  exact and_assoc
theorem mkB_iff (n : Int) (m : List Int) : mkB n m = true ↔ 2 ≤ m.length ∧ ∀ i : Nat, i < m.length → mkAt n m i = true := by
  unfold mkB
  simp only [Bool.and_eq_true, decide_eq_true_eq, List.all_eq_true, List.mem_range]
theorem mkB_no {n : Int} {m : List Int} {i : Nat} (hi : i < m.length) (h : mkAt n m i = false) : mkB n m = false := by
  cases hb : mkB n m with
  | false => rfl
  | true => have := ((mkB_iff n m).1 hb).2 i hi; rw [h] at this; cases this
theorem c69 (s m : List Int) (H : Hp) (hs : s.length ≤ 1000000000) (hm : m.length ≤ 1000000000) : Ret Try.prog 69 [mkd s m] H (I (markE s m)) H := by
  refine mk69 _ rfl (Nat.le_refl _) (.inl rfl) ?_
  simp only [vc69, real]
  simp only [nod_agg, List.map_cons, nodL_ints, nd_no, List.map_nil, nod_nod, Try.underlying25, Jn, List.getD_cons_zero, List.getD_cons_succ, Try.underlying3, true_and, e_bxI, okE_agg, lv_cons, lv_nil, Nat.zero_add, Nat.reduceAdd, all_c, ck_ints, all_n, Bool.and_self, and_true, nod_cptr, e_fac, Nat.reduceLeDiff, e_ldci, nod_ints, e_len]
  refine call_of (c73 s H hs) ?_
  simp only [nod_imm, e_neq, e_cond, Bool.not_eq_true', decide_eq_false_iff_not]
  unfold markE
  by_cases h0 : waveE s = 0
  · rw [if_neg (by simp [h0]), if_neg (by simp [h0])]
    refine loop_of (fun i : Nat => i ≤ m.length ∧ ∀ j : Nat, j < i → mkAt s.length m j = true) (fun i => [.cptr (mkd s m), ints m .no, I m.length, I i]) (fun _ => H) (fun i => m.length - i) 0 ⟨Nat.zero_le _, fun j h => absurd h (Nat.not_lt_zero _)⟩ rfl rfl ?_
    intro i ⟨hi, hp⟩
    simp only [mkd]
    simp only [List.getD_cons_succ, List.getD_cons_zero, nod_imm, nod_ints, nd_no, nod_cptr, e_fac, Nat.zero_add, lv_cons, lv_nil, Nat.reduceAdd, Nat.reduceLeDiff, e_ldci, e_len, true_and, e_sub, e_ix, e_ldc, e_gtr, e_gT, j_tl, decide_eq_true_eq, e_add, Int.toNat_natCast, e_leq, j_and', e_lss, e_gF, j_or', j_one, j_fl, j_side, e_cond]
    split
    · rename_i hlt
      have hlt' : i < m.length := by omega
      refine ⟨by omega, by omega, ?_⟩
      have bad : mkAt s.length m i = false → retF (I (if mkB s.length m = true then 0 else 2)) H [I 2] H := fun h => by
        rw [mkB_no hlt' h]
        exact end_keep (.imm _) rfl
      have good : mkAt s.length m i = true → R64 ((i : Int) + 1) ∧ ∃ s' : Nat, (s' ≤ m.length ∧ ∀ j : Nat, j < s' → mkAt s.length m j = true) ∧ [V.cptr (V.agg [ints s .no, ints m .no]), ints m .no, I m.length, I s'] = [V.cptr (V.agg [ints s .no, ints m .no]), ints m .no, I m.length, I ((i : Int) + 1)] ∧ m.length - s' < m.length - i := fun h =>
        ⟨(by unfold R64; omega), i + 1, ⟨by omega, fun j hj => by
          by_cases e : j = i
          · subst e; exact h
          · exact hp j (by omega)⟩, rfl, by omega⟩
      try simp only [e_Jv]
      try simp only [Try.underlying3, Try.underlying4, Try.underlying22, Try.underlying25, j_one, j_side, j_tl, j_fl, Jn, nod_nod, nod_imm, nod_ints, nd_no, nd_own, nd_full, nd_fO, oF_ap, oF_succ, nod_arr_no, nod_arr_own, nod_arr_full, nod_sl, nod_ptr, nod_cptr, nod_fn, nod_junk, nodL_imm, nod_agg, nod_tup, nod2_imm, nod2_agg, cl_imm, cl_ints, cl_agg, e_add, e_sub, e_mul, e_quo, e_rem, e_eql, e_neq, e_lss, e_leq, e_gtr, e_geq, e_beq, e_bne, e_neg, e_not, e_pick, e_cond, e_gT, e_gF, e_len, e_lenA, e_lenS, e_ix, e_ixS, e_ldc, e_ldci, e_fa, e_mk, rep_cl, rep_I, e_bx, okE_I, okE_B, okE_E8, okE_ints, stV_imm, stV_ints, j_and', j_or', List.getD_cons_zero, List.getD_cons_succ, List.map_cons, List.map_nil, decide_eq_true_eq, Int.toNat_natCast, Nat.mul_one, Nat.zero_add, true_and, and_true, List.length_map, Bool.not_eq_true', decide_eq_false_iff_not, nod_lists, e_lenL, e_ixL, okE_lists, bs1, bs1L, bs2L, e_app, e_appL, e_app0, e_app0L, e_slcLo, e_slcHi, e_slcLH, e_slcHH, e_slcLHH, e_callG, e_callY, e_calmG, e_slS0, e_slSLo, e_slSHi, e_slSLH, e_slSHH, e_slSLHH, e_max2, e_min2, e_max3, e_x20, e_x21, e_x30, e_x31, e_x32, nod2_ints, nod2_lists, rep_fl, bs0, e_nilE, if_true, if_false, cond_true, cond_false, decide_true, decide_false, eq_self, Bool.false_eq_true, false_implies, true_implies, ap_own, ap_full, e_slcLoL, e_slcHiL, e_slcLHL, hp_assoc, hp_cons, hp_nil, hp_len, hp_len_cons, hp_len_nil, lv_cons, lv_nil, vs_0, vs_s, spl_s, spl_0, spl_n, dr_s, dr_0, tk_s, tk_0, e_bxI, e_fac, e_facA, e_ldcA, e_ldcL, e_ldcF, okE_agg, ck_I, ck_B, ck_ints, ck_lists, ck_arr, ck_ptr, ck_cptr, ck_fn, all_c, all_n, stV_agg, stV_lists, stV_arr, stV_ptr, stV_cptr, stV_fn, nodL_ints, nodL_lists, nodL_ptr, nodL_cptr, nodL_fn, nodL_arr0, cl_arr, cl_ptr, cl_cptr, cl_fn, cl_lists, okE_arr, okE_fn, okE_ptr, okE_cptr, e_bd0, e_bd1, Nat.reduceAdd, Nat.reduceLeDiff, Nat.reduceEqDiff, Nat.add_zero, Bool.and_self, Bool.true_and, Bool.and_true, e_lc0, e_lA0, e_lM0, e_sc0, e_rc0, e_rA0, e_lI0, e_sI0, e_cI0, e_lc1, e_lA1, e_lM1, e_sc1, e_rc1, e_rA1, e_lI1, e_sI1, e_cI1, e_lc2, e_lA2, e_lM2, e_sc2, e_rc2, e_rA2, e_lI2, e_sI2, e_cI2, e_lc3, e_lA3, e_lM3, e_sc3, e_rc3, e_rA3, e_lI3, e_sI3, e_cI3, e_lc4, e_lA4, e_lM4, e_sc4, e_rc4, e_rA4, e_lI4, e_sI4, e_cI4, e_lc5, e_lA5, e_lM5, e_sc5, e_rc5, e_rA5, e_lI5, e_sI5, e_cI5, own0_arr, own0_ints, own0_lists, own0_imm, own0_ptr, own0_cptr, own0_fn, own0_agg, e_appB, e_appB0, ck_sl, own0_sl, stV_sl, nodL_sl, cl_sl, okE_sl]
      have e1 : ((i : Int) - 1).toNat = i - 1 := by omega
      simp only [e1]
      repeat (refine And.intro (by first | (unfold R64; omega) | omega | assumption | (intros; (try simp only [Bool.or_eq_true, Bool.and_eq_true, Bool.not_eq_true', Bool.or_eq_false_iff, Bool.and_eq_false_iff, decide_eq_false_iff_not, decide_eq_true_eq, Bool.not_eq_true, Bool.not_eq_false'] at *); (try unfold R64); omega)) ?_)
      by_cases hb : mkAt s.length m i = true
      · have hb' := (mkAt_iff _ _ _).1 hb
        have hgood := good hb
        clear bad good
        generalize (if mkB (s.length : Int) m = true then (0 : Int) else 2) = E
        try simp only [Bool.cond_eq_ite]
        repeat' split
        all_goals first | exact hgood | (exfalso; simp only [Bool.or_eq_true, Bool.and_eq_true, Bool.not_eq_true', Bool.or_eq_false_iff, Bool.and_eq_false_iff, decide_eq_false_iff_not, decide_eq_true_eq, Bool.not_eq_true, Bool.not_eq_false'] at *; omega)
      · have hb' : ¬ (0 ≤ m.getD i 0 ∧ m.getD i 0 ≤ s.length ∧ (i = 0 ∨ m.getD (i - 1) 0 < m.getD i 0)) := fun h => hb ((mkAt_iff _ _ _).2 h)
        have hbf : mkAt s.length m i = false := by simpa using hb
        have hbad := bad hbf
        generalize (if mkB (s.length : Int) m = true then (0 : Int) else 2) = E at hbad ⊢
        try simp only [Bool.cond_eq_ite]
        repeat' split
        all_goals first | exact hbad | (exfalso; simp only [Bool.or_eq_true, Bool.and_eq_true, Bool.not_eq_true', Bool.or_eq_false_iff, Bool.and_eq_false_iff, decide_eq_false_iff_not, decide_eq_true_eq, Bool.not_eq_true, Bool.not_eq_false'] at *; omega)
    · have : i = m.length := by omega
      subst this
      by_cases h2 : (m.length : Int) < 2
      · rw [if_pos h2, if_neg (fun hb => by have := (mkB_iff _ _).1 hb; omega)]
        exact end_keep (.imm _) rfl
      · rw [if_neg h2, if_pos ((mkB_iff _ _).2 ⟨by omega, hp⟩)]
        exact end_keep (.imm _) rfl
  · rw [if_pos (by simp [h0]), if_pos h0]
    exact end_keep (.imm _) rfl
theorem c30 (s m : List Int) (H : Hp) (hs : s.length ≤ 1000000000) (hm : m.length ≤ 1000000000) : Ret Try.prog 30 [mkd s m] H (I (markE s m)) H := by
  refine mk30 _ rfl (Nat.le_refl _) (.inl rfl) ?_
  simp only [vc30, real]
  simp only [nod_agg, List.map_cons, nodL_ints, nd_no, List.map_nil, nod_nod, Try.underlying25, Try.underlying3, Jn, true_and, List.getD_cons_succ, List.getD_cons_zero, e_bxI, okE_agg, lv_cons, lv_nil, Nat.zero_add, Nat.reduceAdd, all_c, ck_ints, all_n, Bool.and_self, and_true, nod_cptr, e_fac, Nat.reduceLeDiff, e_ldci, nod_ints]
  refine call_of (c42 s H hs) ?_
  simp only [nod_imm, e_neq, e_cond, Bool.not_eq_true', decide_eq_false_iff_not]
  unfold markE
  by_cases h0 : waveE s = 0
  · rw [if_neg (by simp [h0]), if_neg (by simp [h0])]
    refine loop_of (fun i : Nat => i ≤ m.length ∧ ∀ j : Nat, j < i → mkAt s.length m j = true) (fun i => [.cptr (mkd s m), I i]) (fun _ => H) (fun i => m.length - i) 0 ⟨Nat.zero_le _, fun j h => absurd h (Nat.not_lt_zero _)⟩ rfl rfl ?_
    intro i ⟨hi, hp⟩
    simp only [mkd]
    simp only [List.getD_cons_zero, nod_cptr, List.getD_cons_succ, nod_imm, e_sub, e_fac, Nat.reduceAdd, lv_cons, lv_nil, Nat.zero_add, Nat.reduceLeDiff, e_ldci, nod_ints, nd_no, e_ix, e_ldc, true_and, Int.toNat_natCast, e_leq, e_gtr, e_gT, j_tl, decide_eq_true_eq, j_and', e_add, e_len, e_lss, e_cond]
    split
    · rename_i hlt
      have hlt' : i < m.length := by omega
      refine ⟨by omega, by omega, ?_⟩
      have bad : mkAt s.length m i = false → retF (I (if mkB s.length m = true then 0 else 2)) H [I 2] H := fun h => by
        rw [mkB_no hlt' h]
        exact end_keep (.imm _) rfl
      have good : mkAt s.length m i = true → R64 ((i : Int) + 1) ∧ ∃ s' : Nat, (s' ≤ m.length ∧ ∀ j : Nat, j < s' → mkAt s.length m j = true) ∧ [V.cptr (V.agg [ints s .no, ints m .no]), I s'] = [V.cptr (V.agg [ints s .no, ints m .no]), I ((i : Int) + 1)] ∧ m.length - s' < m.length - i := fun h =>
        ⟨(by unfold R64; omega), i + 1, ⟨by omega, fun j hj => by
          by_cases e : j = i
          · subst e; exact h
          · exact hp j (by omega)⟩, rfl, by omega⟩
      refine call_of (c60 _ _ _ H) ?_
      simp only [e_Jv]
      simp only [nod_imm, true_and, e_cond, if_true, e_not, e_gF, j_fl]
      have e1 : ((i : Int) - 1).toNat = i - 1 := by omega
      simp only [e1]
      repeat (refine And.intro (by first | (unfold R64; omega) | omega | assumption | (intros; (try simp only [Bool.or_eq_true, Bool.and_eq_true, Bool.not_eq_true', Bool.or_eq_false_iff, Bool.and_eq_false_iff, decide_eq_false_iff_not, decide_eq_true_eq, Bool.not_eq_true, Bool.not_eq_false'] at *); (try unfold R64); omega)) ?_)
      by_cases hb : mkAt s.length m i = true
      · have hb' := (mkAt_iff _ _ _).1 hb
        have hgood := good hb
        clear bad good
        generalize (if mkB (s.length : Int) m = true then (0 : Int) else 2) = E
        try simp only [Bool.cond_eq_ite]
        repeat' split
        all_goals first | exact hgood | (exfalso; simp only [Bool.or_eq_true, Bool.and_eq_true, Bool.not_eq_true', Bool.or_eq_false_iff, Bool.and_eq_false_iff, decide_eq_false_iff_not, decide_eq_true_eq, Bool.not_eq_true, Bool.not_eq_false'] at *; omega)
      · have hb' : ¬ (0 ≤ m.getD i 0 ∧ m.getD i 0 ≤ s.length ∧ (i = 0 ∨ m.getD (i - 1) 0 < m.getD i 0)) := fun h => hb ((mkAt_iff _ _ _).2 h)
        have hbf : mkAt s.length m i = false := by simpa using hb
        have hbad := bad hbf
        generalize (if mkB (s.length : Int) m = true then (0 : Int) else 2) = E at hbad ⊢
        try simp only [Bool.cond_eq_ite]
        repeat' split
        all_goals first | exact hbad | (exfalso; simp only [Bool.or_eq_true, Bool.and_eq_true, Bool.not_eq_true', Bool.or_eq_false_iff, Bool.and_eq_false_iff, decide_eq_false_iff_not, decide_eq_true_eq, Bool.not_eq_true, Bool.not_eq_false'] at *; omega)
    · have : i = m.length := by omega
      subst this
      by_cases h2 : (m.length : Int) < 2
      · rw [if_pos h2, if_neg (fun hb => by have := (mkB_iff _ _).1 hb; omega)]
        exact end_keep (.imm _) rfl
      · rw [if_neg h2, if_pos ((mkB_iff _ _).2 ⟨by omega, hp⟩)]
        exact end_keep (.imm _) rfl
  · rw [if_pos (by simp [h0]), if_pos h0]
    exact end_keep (.imm _) rfl
theorem c37 (s m : List Int) (H : Hp) (hs : s.length ≤ 1000000000) (hm : m.length ≤ 1000000000) : Ret Try.prog 37 [mkd s m] H (B (decide (markE s m = 0))) H := by
  refine mk37 _ rfl (Nat.le_refl _) (.inl rfl) ?_
  simp only [vc37, real]
  simp only [nod_agg, List.map_cons, nodL_ints, nd_no, List.map_nil, Try.underlying25, e_bxI, okE_agg, lv_cons, lv_nil, Nat.zero_add, Nat.reduceAdd, all_c, ck_ints, all_n, Bool.and_self, and_true, nod_cptr, e_ldcA, true_and]
  refine call_of (c69 s m H hs hm) ?_
  simp only [nod_imm, e_eql]
  exact end_keep (.imm _) rfl
end Go.Proofs.Ytehjfjdknllmhaa
