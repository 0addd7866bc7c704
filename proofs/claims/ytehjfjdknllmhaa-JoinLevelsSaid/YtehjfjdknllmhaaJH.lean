/- Contracts of join's functions, fourth part: chains. -/
import Derived.Test.YtehjfjdknllmhaaJG
set_option linter.unusedVariables false
set_option linter.unusedSimpArgs false
set_option linter.unnecessarySimpa false
set_option maxRecDepth 20000
set_option maxHeartbeats 2000000
namespace Go.Proofs.Ytehjfjdknllmhaa
open Go Go.Ab Go.Proofs
attribute [local congr] g_bin g_nilS g_nilP g_un g_ext g_bx g_fa g_ld g_st g_ix g_ixA g_slc g_mk g_bs g_bd g_nc g_cv g_len g_lenT g_app g_appB g_cpy g_mm g_call g_callG g_calm g_calmG g_range g_res g_pick g_cond g_loop g_Jv
theorem rnd_ediv (a b : Int) (hb : 0 < b) : rnd a b = if a < 0 then -((2 * -a + b) / (2 * b)) else (2 * a + b) / (2 * b) := by
  unfold rnd
  split
  · rw [Int.tdiv_eq_ediv_of_nonneg (by omega)]
  · rw [Int.tdiv_eq_ediv_of_nonneg (by omega)]
theorem ediv_lo (x y : Int) (hy : 0 < y) : y * (x / y) ≤ x := Int.mul_ediv_self_le (by omega)
theorem ediv_hi (x y : Int) (hy : 0 < y) : x < y * (x / y) + y := Int.lt_mul_ediv_self_add hy
theorem le_of_mul {x y z : Int} (hz : 0 < z) (h : z * x < z * y + z) : x ≤ y := by
  have : z * x < z * (y + 1) := by rw [Int.mul_add, Int.mul_one]; exact h
  have := Int.lt_of_mul_lt_mul_left this (by omega)
  omega
theorem rnd_le {a b M : Int} (hb : 0 < b) (h : a ≤ b * M) : rnd a b ≤ M := by
  rw [rnd_ediv a b hb]
  have e : 2 * b * M = 2 * (b * M) := by rw [Int.mul_assoc]
  split
  · rename_i h0
    have h2 := ediv_hi (2 * -a + b) (2 * b) (by omega)
    generalize (2 * -a + b) / (2 * b) = q at *
    have : -M ≤ q := by
      refine le_of_mul (z := 2 * b) (by omega) ?_
      have : 2 * b * -M = -(2 * b * M) := by rw [Int.mul_neg]
      omega
    omega
  · rename_i h0
    have h1 := ediv_lo (2 * a + b) (2 * b) (by omega)
    generalize (2 * a + b) / (2 * b) = q at *
    refine le_of_mul (z := 2 * b) (by omega) ?_
    omega
theorem rnd_ge {a b m : Int} (hb : 0 < b) (h : b * m ≤ a) : m ≤ rnd a b := by
  rw [rnd_ediv a b hb]
  have e : 2 * b * m = 2 * (b * m) := by rw [Int.mul_assoc]
  split
  · rename_i h0
    have h1 := ediv_lo (2 * -a + b) (2 * b) (by omega)
    generalize (2 * -a + b) / (2 * b) = q at *
    have : q ≤ -m := by
      refine le_of_mul (z := 2 * b) (by omega) ?_
      have : 2 * b * -m = -(2 * b * m) := by rw [Int.mul_neg]
      omega
    omega
  · rename_i h0
    have h2 := ediv_hi (2 * a + b) (2 * b) (by omega)
    generalize (2 * a + b) / (2 * b) = q at *
    refine le_of_mul (z := 2 * b) (by omega) ?_
    omega
theorem fadeV_le (x y : List Int) (n i : Nat) (hi : i < n) (M : Int) (h1 : x.getD i 0 ≤ M) (h2 : y.getD i 0 ≤ M) : fadeV x y n i ≤ M := by
  unfold fadeV
  refine rnd_le (by omega) ?_
  have p1 := Int.mul_le_mul_of_nonneg_left h1 (show (0 : Int) ≤ (n : Int) - i by omega)
  have p2 := Int.mul_le_mul_of_nonneg_left h2 (show (0 : Int) ≤ (i : Int) + 1 by omega)
  have e : ((n : Int) + 1) * M = ((n : Int) - i) * M + ((i : Int) + 1) * M := by rw [← Int.add_mul]; congr 1; omega
  omega
theorem fadeV_ge (x y : List Int) (n i : Nat) (hi : i < n) (m : Int) (h1 : m ≤ x.getD i 0) (h2 : m ≤ y.getD i 0) : m ≤ fadeV x y n i := by
  unfold fadeV
  refine rnd_ge (by omega) ?_
  have p1 := Int.mul_le_mul_of_nonneg_left h1 (show (0 : Int) ≤ (n : Int) - i by omega)
  have p2 := Int.mul_le_mul_of_nonneg_left h2 (show (0 : Int) ≤ (i : Int) + 1 by omega)
  have e : ((n : Int) + 1) * m = ((n : Int) - i) * m + ((i : Int) + 1) * m := by rw [← Int.add_mul]; congr 1; omega
  omega
theorem fadeL_smp {x y : List Int} (hx : Smp x) (hy : Smp y) : Smp (fadeL x y) := smp_of fun v hv => by
  unfold fadeL at hv
  obtain ⟨i, hi, rfl⟩ := List.mem_map.1 hv
  rw [List.mem_range] at hi
  exact ⟨fadeV_ge x y _ i hi _ (hx i).1 (hy i).1, fadeV_le x y _ i hi _ (hx i).2 (hy i).2⟩
theorem joinL_smp {a b : List Int} (ha : Smp a) (hb : Smp b) (n k : Int) : Smp (joinL a b n k) := smp_of fun v hv => by
  unfold joinL at hv
  simp only [List.mem_append] at hv
  rcases hv with hv | hv | hv
  · exact (ha.take _).mem v hv
  · exact (fadeL_smp (ha.drop _) ((hb.take _).drop _)).mem v hv
  · exact (hb.drop _).mem v hv

def joinE (a b : List Int) (n k : Int) : Int := if wavesE [a, b] ≠ 0 then wavesE [a, b] else if existsB a b n k = true then (if (joinL a b n k).length ≤ 100000 then 0 else 4) else 2
theorem c46 (a b : List Int) (n k : Int) (H : Hp) (la : a.length ≤ 1000000000) (lb : b.length ≤ 1000000000) : Ret Try.prog 46 [ints a .no, ints b .no, I n, I k] H
    (.tup [ints (if joinE a b n k = 0 then joinL a b n k else []) .no, I (joinE a b n k)]) H := by
  refine mk46 _ _ _ _ rfl (Nat.le_refl _) (.inl rfl) ?_
  simp only [vc46, real]
  simp only [Jn, nod_ints, nd_no, bs2L, nod_lists, nd_full, nod_nod, Try.underlying25, List.getD_cons_zero, List.getD_cons_succ, nod_imm]
  refine call_wk (c57 [a, b] H (by simp) (by simp; omega)) (.cons (.full _) .nil) ?_
  simp only [nod_imm, e_neq, e_cond, Bool.not_eq_true', decide_eq_false_iff_not]
  by_cases h0 : wavesE [a, b] = 0
  · rw [if_neg (by simp [h0])]
    refine call_of (c70 a b n k H lb) ?_
    simp only [nod_imm, e_not, e_cond, Bool.not_eq_true']
    by_cases h1 : existsB a b n k = true
    · rw [if_neg (by simp [h1])]
      have hw := wavesE_zero h0
      have w1 := hw a (by simp)
      have w2 := hw b (by simp)
      refine call_of (c63 a b n k H w1.2 w2.2 (by omega) (by omega) h1) ?_
      simp only [nod_tup, List.map_cons, nod2_ints, nd_no, nod2_imm, List.map_nil, e_x21, nod_imm, e_not, e_cond, Bool.not_eq_true', decide_eq_false_iff_not, e_x20, nod_ints]
      by_cases h2 : (joinL a b n k).length ≤ 100000
      · have e : joinE a b n k = 0 := by unfold joinE; rw [if_neg (by simp [h0]), if_pos h1, if_pos h2]
        rw [if_neg (by simp; omega), e, if_pos rfl, if_pos h2]
        exact end2 rfl rfl (fzA _ _) (fzI _)
      · have e : joinE a b n k = 4 := by unfold joinE; rw [if_neg (by simp [h0]), if_pos h1, if_neg h2]
        rw [if_pos (by simp; omega), e, if_neg (by decide)]
        exact end2 rfl rfl fz0 (fzI _)
    · have e : joinE a b n k = 2 := by unfold joinE; rw [if_neg (by simp [h0]), if_neg h1]
      rw [if_pos (by simpa using h1), e, if_neg (by decide)]
      exact end2 rfl rfl fz0 (fzI _)
  · have e : joinE a b n k = wavesE [a, b] := by unfold joinE; rw [if_pos h0]
    rw [if_pos (by simp [h0]), e, if_neg h0]
    exact end2 rfl rfl fz0 (fzI _)
theorem c48 (a b : List Int) (n k : Int) (H : Hp) (ha : Smp a) (hb : Smp b) (la : a.length ≤ 200000) (lb : b.length ≤ 200000) (he : existsB a b n k = true) : Ret Try.prog 48 [ints a .no, ints b .no, I n, I k] H (ints (joinL a b n k) .no) H := by
  have hx := existsB_iff.1 he
  refine mk48 _ _ _ _ rfl (Nat.le_refl _) (.inl rfl) ?_
  simp only [vc48, real]
  simp only [nod_ints, nd_no, nod_imm, Try.underlying3, nod_nod, Jn, List.getD_cons_succ, List.getD_cons_zero, e_add, e_slcLo, e_slcLH, e_len, e_sub, e_slcHi, e_app0]
  have l0 : (List.take ((a.length : Int) - n).toNat a).length ≤ 200000 := by simp; omega
  have l1 : (List.drop ((a.length : Int) - n).toNat a).length = n.toNat := by simp; omega
  have l2 : (List.drop k.toNat (List.take (k + n).toNat b)).length = n.toNat := by simp; omega
  have l3 : (List.drop (k + n).toNat b).length ≤ 200000 := by simp; omega
  refine ⟨(by unfold R64; omega), ?_⟩
  refine And.intro (by omega) ?_
  repeat (refine And.intro (by first | (unfold R64; omega) | omega | assumption | (intros; (try simp only [Bool.or_eq_true, Bool.and_eq_true, Bool.not_eq_true', Bool.or_eq_false_iff, Bool.and_eq_false_iff, decide_eq_false_iff_not, decide_eq_true_eq, Bool.not_eq_true, Bool.not_eq_false'] at *); (try unfold R64); omega)) ?_)
  refine call_of (c22 _ _ H (by rw [l1, l2]) (by omega) (ha.drop _) ((hb.take _).drop _)) ?_
  have l4 := fadeL_length (List.drop ((a.length : Int) - n).toNat a) (List.drop k.toNat (List.take (k + n).toNat b))
  simp only [nod_ints, nd_no, e_app, ap_own, true_and]
  rw [l1] at l4
  repeat (refine And.intro (by first | (unfold R64; omega) | omega | assumption | (intros; (try simp only [Bool.or_eq_true, Bool.and_eq_true, Bool.not_eq_true', Bool.or_eq_false_iff, Bool.and_eq_false_iff, decide_eq_false_iff_not, decide_eq_true_eq, Bool.not_eq_true, Bool.not_eq_false'] at *); (try unfold R64); omega)) ?_)
  have l5 : (List.take ((a.length : Int) - n).toNat a ++ fadeL (List.drop ((a.length : Int) - n).toNat a) (List.drop k.toNat (List.take (k + n).toNat b))).length ≤ 400000 := by simp only [List.length_append]; omega
  repeat (refine And.intro (by first | (unfold R64; omega) | omega | assumption | (intros; (try simp only [Bool.or_eq_true, Bool.and_eq_true, Bool.not_eq_true', Bool.or_eq_false_iff, Bool.and_eq_false_iff, decide_eq_false_iff_not, decide_eq_true_eq, Bool.not_eq_true, Bool.not_eq_false'] at *); (try unfold R64); omega)) ?_)
  unfold joinL
  rw [← List.append_assoc]
  exact end_ints

/-! ### Chains -/
def chainS (n r : Int) : List (List Int) → List Int → List Int → List Int × List Int × Int
  | [], out, bg => (out, bg, 0)
  | b :: l, out, bg =>
    if existsB out b n 0 = true then
      (if (joinL out b n (lagA out b n (lagM b n r))).length ≤ 100000 then chainS n r l (joinL out b n (lagA out b n (lagM b n r))) (bg ++ [(out.length : Int) - n]) else ([], [], 4))
    else ([], [], 5)
theorem lag_ex {a b : List Int} {n r : Int} (he : existsB a b n 0 = true) (hr : 0 ≤ r) : existsB a b n (lagA a b n (lagM b n r)) = true := by
  have hx := existsB_iff.1 he
  have h1 : 0 < lagM b n r := by unfold lagM; omega
  have h2 := lagA_nn a b n _ h1
  have h3 := lagA_lt a b n (lagM b n r)
  have hM : (lagM b n r : Int) = max 0 (min r ((b.length : Int) - n) + 1) := by unfold lagM; omega
  exact existsB_iff.2 (by omega)
def chainE (n r : Int) (l : List (List Int)) : Int := if 500 < l.length then 4 else if wavesE l ≠ 0 then wavesE l else if n < 1 ∨ r < 0 ∨ l.length = 0 then 2 else 0
def chainR (n r : Int) (l : List (List Int)) : List Int × List Int × Int := if chainE n r l ≠ 0 then ([], [], chainE n r l) else chainS n r l.tail (l.getD 0 []) [0]
theorem c24 (l : List (List Int)) (n r : Int) (H : Hp) (hx : ∀ x, x ∈ l → x.length ≤ 1000000000) : Ret Try.prog 24 [I n, I r, lists l .no] H
    (.tup [ints (chainR n r l).1 .no, ints (chainR n r l).2.1 .no, I (chainR n r l).2.2]) H := by
  refine mk24 _ _ _ rfl (Nat.le_refl _) (.inl rfl) ?_
  simp only [vc24, real]
  simp only [nod_lists, nd_no, Try.underlying3, Jn, List.getD_cons_succ, List.getD_cons_zero, nod_nod, Try.underlying25, nod_imm, e_lss, e_lenL, e_eql, e_slcLoL, bs1, e_ixL, nod_cptr, e_ldci, nod_ints, e_gF, j_or', j_one, e_cond, e_gtr, decide_eq_true_eq]
  by_cases h0 : 500 < l.length
  · rw [if_pos (by omega)]
    have e : chainE n r l = 4 := by unfold chainE; rw [if_pos h0]
    unfold chainR
    rw [e, if_pos (by decide)]
    exact end3 rfl rfl rfl fz0 fz0 (fzI _)
  · rw [if_neg (by omega)]
    refine call_of (c57 l H (by omega) hx) ?_
    simp only [nod_imm, e_neq, e_cond, Bool.not_eq_true', decide_eq_false_iff_not]
    by_cases h1 : wavesE l = 0
    · rw [if_neg (by simp [h1])]
      by_cases h2 : n < 1 ∨ r < 0 ∨ l.length = 0
      · rw [if_pos (by simp only [Bool.or_eq_true, Bool.and_eq_true, Bool.not_eq_true', Bool.or_eq_false_iff, Bool.and_eq_false_iff, decide_eq_false_iff_not, decide_eq_true_eq, Bool.not_eq_true]; omega)]
        have e : chainE n r l = 2 := by unfold chainE; rw [if_neg h0, if_neg (by simp [h1]), if_pos h2]
        unfold chainR
        rw [e, if_pos (by decide)]
        exact end3 rfl rfl rfl fz0 fz0 (fzI _)
      · rw [if_neg (by simp only [Bool.or_eq_true, Bool.and_eq_true, Bool.not_eq_true', Bool.or_eq_false_iff, Bool.and_eq_false_iff, decide_eq_false_iff_not, decide_eq_true_eq, Bool.not_eq_true]; omega)]
        have e : chainE n r l = 0 := by unfold chainE; rw [if_neg h0, if_neg (by simp [h1]), if_neg h2]
        have hw := wavesE_zero h1
        obtain ⟨x, l, rfl⟩ : ∃ x l', l = x :: l' := by
          cases l with
          | nil => simp at h2
          | cons x l => exact ⟨x, l, rfl⟩
        have wx := hw x (by simp)
        refine ⟨by omega, by simp, ?_⟩
        refine call_of (c61 x H (by omega)) ?_
        refine ⟨by omega, by simp; omega, ?_⟩
        have el : List.drop (Int.toNat 1) (x :: l) = l := rfl
        rw [el]
        have er : chainR n r (x :: l) = chainS n r l x [0] := by unfold chainR; rw [if_neg (by simp [e])]; rfl
        have hll : l.length < 500 := by simp at h0; omega
        rw [er]
        generalize hF : chainS n r l x [0] = F
        refine loop_of (fun s : Nat × List Int × List Int => s.1 ≤ l.length ∧ Smp s.2.1 ∧ s.2.1.length ≤ 100000 ∧ s.2.2.length = s.1 + 1 ∧ chainS n r (l.drop s.1) s.2.1 s.2.2 = F) (fun s => [I n, I r, ints s.2.1 .no, ints s.2.2 (oF s.1), lists l .no, I l.length, I s.1]) (fun _ => H) (fun s => l.length - s.1) (0, x, [0]) ⟨by simp, wx.2, wx.1, rfl, hF⟩ rfl rfl ?_
        intro ⟨i, out, bg⟩ ⟨hi, ho, hlo, hbg, hc⟩
        simp only at hi ho hlo hbg hc ⊢
        simp only [List.getD_cons_succ, List.getD_cons_zero, nod_imm, nod_lists, nd_no, nod_ints, e_add, e_len, e_sub, bs1, nd_full, e_app, oF_ap, true_and, e_ixL, Int.toNat_natCast, nod_cptr, e_ldci, e_lss, e_cond, decide_eq_true_eq]
        split
        · rename_i hlt
          have hlt' : i < l.length := by omega
          refine ⟨by omega, by omega, ?_⟩
          have hmem : l.getD i [] ∈ x :: l := List.mem_cons_of_mem _ (hMemL l hlt')
          have wb := hw _ hmem
          have ed : l.drop i = l.getD i [] :: l.drop (i + 1) := by
            rw [List.drop_eq_getElem_cons hlt']
            simp [List.getD_eq_getElem?_getD, hlt']
          rw [ed] at hc
          generalize l.getD i [] = b at *
          simp only [chainS] at hc
          refine call_of (c62 out b n r H ho wb.2 (by omega) (by omega) (by omega)) ?_
          simp only [nod_tup, List.map_cons, nod2_imm, List.map_nil, e_x32, nod_imm, e_not, e_cond, Bool.not_eq_true', e_x31, e_x30]
          by_cases he : existsB out b n 0 = true
          · rw [if_pos he] at hc
            rw [if_neg (by simp [he])]
            simp only [he, if_true]
            have hx2 := existsB_iff.1 he
            refine ⟨(by unfold R64; omega), by simp; omega, ?_⟩
            have hex := lag_ex (r := r) he (by omega)
            refine call_of (c63 out b n _ H ho wb.2 (by omega) (by omega) hex) ?_
            simp only [nod_tup, List.map_cons, nod2_ints, nd_no, nod2_imm, List.map_nil, true_and, e_x21, nod_imm, e_not, e_cond, Bool.not_eq_true', decide_eq_false_iff_not, e_x20]
            split at hc
            · rename_i hj
              rw [if_neg (by simp; omega), if_pos hj]
              exact ⟨(by unfold R64; omega), (i + 1, _, _), ⟨by omega, joinL_smp ho wb.2 _ _, hj, by simp; omega, hc⟩, rfl, by simp only; omega⟩
            · rename_i hj
              rw [if_pos (by simp; omega)]
              rw [← hc]
              exact end3 rfl rfl rfl fz0 fz0 (fzI _)
          · rw [if_neg he] at hc
            rw [if_pos (by simpa using he)]
            rw [← hc]
            exact end3 rfl rfl rfl fz0 fz0 (fzI _)
        · have : i = l.length := by omega
          subst this
          rw [List.drop_length] at hc
          rw [← hc]
          exact end3 rfl rfl rfl (fzA _ _) (fzA _ _) (fzI _)
    · rw [if_pos (by simp [h1])]
      have e : chainE n r l = wavesE l := by unfold chainE; rw [if_neg h0, if_pos h1]
      unfold chainR
      rw [e, if_pos h1]
      exact end3 rfl rfl rfl fz0 fz0 (fzI _)
theorem c25 (l : List (List Int)) (n r : Int) (H : Hp) (h1 : wavesE l = 0) (hll : l.length ≤ 500) (hne : l ≠ []) (hn : 1 ≤ n) (hr : 0 ≤ r) : Ret Try.prog 25 [I n, I r, lists l .no] H
    (.tup [ints (chainS n r l.tail (l.getD 0 []) [0]).1 .no, ints (chainS n r l.tail (l.getD 0 []) [0]).2.1 .no, I (chainS n r l.tail (l.getD 0 []) [0]).2.2]) H := by
  refine mk25 _ _ _ rfl (Nat.le_refl _) (.inl rfl) ?_
  simp only [vc25, real]
  simp only [nod_lists, nd_no, nod_nod, Try.underlying3, Jn, List.getD_cons_succ, List.getD_cons_zero, bs1, e_ixL, nod_cptr, e_ldci, nod_ints, e_app0]
  have hw := wavesE_zero h1
  obtain ⟨x, l, rfl⟩ : ∃ x l', l = x :: l' := by
    cases l with
    | nil => simp at hne
    | cons x l => exact ⟨x, l, rfl⟩
  have wx := hw x (by simp)
  simp only [List.tail_cons, List.getD_cons_zero]
  have ex : (x :: l).getD (Int.toNat 0) [] = x := rfl
  rw [ex]
  refine ⟨by omega, by simp, by omega, ?_⟩
  have hll : l.length < 500 := by simp at hll; omega
  generalize hF : chainS n r l x [0] = F
  refine loop_of (fun s : Nat × List Int × List Int => s.1 ≤ l.length ∧ Smp s.2.1 ∧ s.2.1.length ≤ 100000 ∧ s.2.2.length = s.1 + 1 ∧ chainS n r (l.drop s.1) s.2.1 s.2.2 = F) (fun s => [I n, I r, lists (x :: l) .no, ints s.2.1 (fO s.1), ints s.2.2 (oF s.1), I (s.1 + 1)]) (fun _ => H) (fun s => l.length - s.1) (0, x, [0]) ⟨by simp, wx.2, wx.1, rfl, hF⟩ rfl rfl ?_
  intro ⟨i, out, bg⟩ ⟨hi, ho, hlo, hbg, hc⟩
  simp only at hi ho hlo hbg hc ⊢
  simp only [e_lenL, List.getD_cons_zero, List.getD_cons_succ]
  simp only [nod_lists, nd_no, nod_imm, nod_ints, nd_fO, e_len, e_add, e_ixL, List.length_cons, nod_cptr, e_ldci, e_sub, bs1, nd_full, e_app, oF_ap, true_and, e_lenL, e_lss, e_cond, decide_eq_true_eq]
  split
  · rename_i hlt
    have hlt' : i < l.length := by omega
    refine ⟨by omega, by omega, ?_⟩
    have e1 : ((i : Int) + 1).toNat = i + 1 := by omega
    rw [e1]
    have e2 : (x :: l).getD (i + 1) [] = l.getD i [] := rfl
    simp only [e2]
    have hmem : l.getD i [] ∈ x :: l := List.mem_cons_of_mem _ (hMemL l hlt')
    have wb := hw _ hmem
    have ed : l.drop i = l.getD i [] :: l.drop (i + 1) := by
      rw [List.drop_eq_getElem_cons hlt']
      simp [List.getD_eq_getElem?_getD, hlt']
    rw [ed] at hc
    generalize l.getD i [] = b at *
    simp only [chainS] at hc
    refine call_of (c39 out b n r H ho wb.2 (by omega) (by omega) (by omega)) ?_
    simp only [nod_tup, List.map_cons, nod2_imm, List.map_nil, e_x21, nod_imm, e_not, e_cond, Bool.not_eq_true', e_x20]
    by_cases he : existsB out b n 0 = true
    · rw [if_pos he] at hc
      have hok : (existsB out b n 0 && decide (0 ≤ r)) = true := by simp [he, hr]
      rw [if_neg (by simp [hok])]
      simp only [he, if_true]
      have hx2 := existsB_iff.1 he
      have hex := lag_ex (r := r) he (by omega)
      refine ⟨(by unfold R64; omega), by simp; omega, by omega, by omega, ?_⟩
      refine call_of (c48 out b n _ H ho wb.2 (by omega) (by omega) hex) ?_
      simp only [nod_ints, nd_no, true_and, e_len, nod_imm, e_gtr, e_cond, decide_eq_true_eq]
      split at hc
      · rename_i hj
        rw [if_neg (by omega)]
        exact ⟨(by unfold R64; omega), (i + 1, _, _), ⟨by omega, joinL_smp ho wb.2 _ _, hj, by simp; omega, hc⟩, rfl, by simp only; omega⟩
      · rename_i hj
        rw [if_pos (by omega)]
        rw [← hc]
        exact end3 rfl rfl rfl fz0 fz0 (fzI _)
    · rw [if_neg he] at hc
      have hok : (existsB out b n 0 && decide (0 ≤ r)) = false := by simp [he]
      rw [if_pos hok]
      rw [← hc]
      exact end3 rfl rfl rfl fz0 fz0 (fzI _)
  · have : i = l.length := by omega
    subst this
    rw [List.drop_length] at hc
    rw [← hc]
    exact end3 rfl rfl rfl (fzA _ _) (fzA _ _) (fzI _)
end Go.Proofs.Ytehjfjdknllmhaa
