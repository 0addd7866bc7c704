/- Contracts of join's functions, tenth part: gains. -/
import Derived.Test.YtehjfjdknllmhaaJM
set_option linter.unusedVariables false
set_option linter.unusedSimpArgs false
set_option linter.unnecessarySimpa false
set_option maxRecDepth 20000
set_option maxHeartbeats 2000000
namespace Go.Proofs.Ytehjfjdknllmhaa
open Go Go.Ab Go.Proofs
attribute [local congr] g_bin g_nilS g_nilP g_un g_ext g_bx g_fa g_ld g_st g_ix g_ixA g_slc g_mk g_bs g_bd g_nc g_cv g_len g_lenT g_app g_appB g_cpy g_mm g_call g_callG g_calm g_calmG g_range g_res g_pick g_cond g_loop g_Jv
def clipV (x : Int) : Int := max (-32768) (min 32767 x)
theorem clipV_bd (x : Int) : -32768 ≤ clipV x ∧ clipV x ≤ 32767 := by unfold clipV; omega
theorem c72 (x : Int) (H : Hp) : Ret Try.prog 72 [I x] H (I (clipV x)) H := by
  refine mk72 _ rfl (Nat.le_refl _) (.inl rfl) ?_
  simp only [vc72, real]
  simp only [nod_imm, e_min2, e_max2]
  exact end_keep (.imm _) rfl
def gv (num den x : Int) : Int := rnd (x * num) den
def gainL (a : List Int) (num den : Int) : List Int := (List.range a.length).map fun i => clipV (gv num den (a.getD i 0))
def gainC (a : List Int) (num den : Int) : Nat → Int
  | 0 => 0
  | i + 1 => gainC a num den i + if gv num den (a.getD i 0) = clipV (gv num den (a.getD i 0)) then 0 else 1
theorem gainC_bd (a : List Int) (num den : Int) : ∀ i : Nat, 0 ≤ gainC a num den i ∧ gainC a num den i ≤ i
  | 0 => by simp [gainC]
  | i + 1 => by have := gainC_bd a num den i; unfold gainC; split <;> omega
theorem gv_mul {x num : Int} (h1 : -32768 ≤ x) (h2 : x ≤ 32767) (h3 : 0 ≤ num) (h4 : num ≤ 1000001) : -(32768 * 1000001) ≤ x * num ∧ x * num ≤ 32768 * 1000001 := by
  have := abs_mul_le (a := x) (b := num) (A := 32768) (B := 1000001) (by omega) (by omega) (by omega) (by omega)
  omega
theorem gv_bd {x num den : Int} (h1 : -32768 ≤ x) (h2 : x ≤ 32767) (h3 : 0 ≤ num) (h4 : num ≤ 1000001) (h5 : 1 ≤ den) (h6 : den ≤ 1000000) : -1000000000000 ≤ gv num den x ∧ gv num den x ≤ 1000000000000 := by
  have m := gv_mul h1 h2 h3 h4
  have := rnd_bound (x * num) den (by omega) (32768 * 1000001) (by omega) (by omega)
  unfold gv
  omega
theorem c54 (a : List Int) (num den : Int) (H : Hp) (hs : Smp a) (hl : a.length ≤ 1000000) (h3 : 0 ≤ num) (h4 : num ≤ 1000001) (h5 : 1 ≤ den) (h6 : den ≤ 1000000) : Ret Try.prog 54 [ints a .no, I num, I den] H (.tup [ints (gainL a num den) .no, I (gainC a num den a.length)]) H := by
  refine mk54 _ _ _ rfl (Nat.le_refl _) (.inl rfl) ?_
  simp only [vc54, real]
  simp only [nod_nod, Try.underlying3, Jn, List.getD_cons_succ, List.getD_cons_zero]
  refine loop_of (fun i : Nat => i ≤ a.length) (fun i => [ints a .no, I num, I den, ints ((List.range i).map fun i => clipV (gv num den (a.getD i 0))) (oF i), I (gainC a num den i), I i]) (fun _ => H) (fun i => a.length - i) 0 (by omega) rfl rfl ?_
  intro i hi
  have hg := gainC_bd a num den i
  simp only [List.getD_cons_zero, nod_ints, nd_no, List.getD_cons_succ, nod_imm, e_add, e_ix, Int.toNat_natCast, nod_cptr, e_ldc, e_mul, e_len, e_lss, e_cond, decide_eq_true_eq]
  split
  · rename_i hlt
    have hlt' : i < a.length := by omega
    have hx := hs i
    have m := gv_mul hx.1 hx.2 h3 h4
    have hb := gv_bd hx.1 hx.2 h3 h4 h5 h6
    repeat (refine And.intro (by first | (unfold R64; omega) | omega | assumption | (intros; (try simp only [Bool.or_eq_true, Bool.and_eq_true, Bool.not_eq_true', Bool.or_eq_false_iff, Bool.and_eq_false_iff, decide_eq_false_iff_not, decide_eq_true_eq, Bool.not_eq_true, Bool.not_eq_false'] at *); (try unfold R64); omega)) ?_)
    refine call_of (c59 _ _ (by omega) (by omega) (by omega) (by omega) _) ?_
    show CallA Try.prog 72 [I (gv num den (a.getD i 0))] _ _
    refine call_of (c72 _ _) ?_
    rw [show rnd (a.getD i 0 * num) den = gv num den (a.getD i 0) from rfl]
    have es : (List.range i).map (fun i => clipV (gv num den (a.getD i 0))) ++ [clipV (gv num den (a.getD i 0))] = (List.range (i + 1)).map (fun i => clipV (gv num den (a.getD i 0))) := by rw [List.range_succ, List.map_append]; rfl
    simp only [nod_imm, e_neq, e_cond, Bool.not_eq_true', decide_eq_false_iff_not]
    by_cases hc : gv num den (a.getD i 0) = clipV (gv num den (a.getD i 0))
    · rw [if_neg (by simpa using hc)]
      refine call_of (c72 _ _) ?_
      simp only [nod_imm, true_and, bs1, nod_ints, nd_full, e_app, oF_ap, List.length_map]
      rw [es]
      refine ⟨by simp; omega, (by unfold R64; omega), i + 1, by omega, ?_, by omega⟩
      rw [gainC, if_pos hc, Int.add_zero]
      rfl
    · rw [if_pos (by simpa using hc)]
      refine And.intro (by unfold R64; omega) ?_
      refine call_of (c72 _ _) ?_
      simp only [nod_imm, true_and, bs1, nod_ints, nd_full, e_app, oF_ap, List.length_map]
      rw [es]
      refine ⟨by simp; omega, (by unfold R64; omega), i + 1, by omega, ?_, by omega⟩
      rw [gainC, if_neg hc]
      rfl
  · have : i = a.length := by omega
    subst this
    exact end2 rfl rfl (by rw [nod_ints]; exact end_any) (fzI _)
theorem end3A {H : Hp} {a b c a' b' c' : V} {L : List Blk} (d1 : a'.Nd) (d2 : b'.Nd) (d3 : c'.Nd) (h1 : Fz H.length (H ++ L) a.nod a') (h2 : Fz H.length (H ++ L) b.nod b') (h3 : Fz H.length (H ++ L) c.nod c') : retF (.tup [a', b', c']) H [a, b, c] (H ++ L) := by
  refine ⟨.tup _ _ rfl (fun c hc => ?_) (fun i c c' h1' h2' => ?_), by simp⟩
  · simp at hc; rcases hc with rfl | rfl | rfl <;> assumption
  · match i, h1', h2' with
    | 0, h1', h2' => simp at h1' h2'; subst h1' h2'; exact h1
    | 1, h1', h2' => simp at h1' h2'; subst h1' h2'; exact h2
    | 2, h1', h2' => simp at h1' h2'; subst h1' h2'; exact h3
def outB (num den : Int) : Bool := decide (num < 0) || decide (1000000 < num) || decide (den < 1) || decide (1000000 < den)
def gainE (a : List Int) (num den : Int) : Int := if waveE a ≠ 0 then waveE a else if outB num den then 2 else 0
def gainV (a : List Int) (num den : Int) : V := if gainE a num den ≠ 0 then .tup [ints [] .no, I 0, I (gainE a num den)] else .tup [ints (gainL a num den) .no, I (gainC a num den a.length), I 0]
theorem gainV_nd (a : List Int) (num den : Int) : (gainV a num den).Nd := by unfold gainV; split <;> rfl
theorem c75 (x num den : Int) (H : Hp) (h1 : -32768 ≤ x) (h2 : x ≤ 32767) (h3 : 0 ≤ num) (h4 : num ≤ 1000001) (h5 : 1 ≤ den) (h6 : den ≤ 1000000) : Ret Try.prog 75 [I x, I num, I den] H (I (gv num den x)) H := by
  refine mk75 _ _ _ rfl (Nat.le_refl _) (.inl rfl) ?_
  simp only [vc75, real]
  simp only [nod_imm, Try.underlying3, e_mul]
  have m := gv_mul h1 h2 h3 h4
  repeat (refine And.intro (by first | (unfold R64; omega) | omega | assumption | (intros; (try simp only [Bool.or_eq_true, Bool.and_eq_true, Bool.not_eq_true', Bool.or_eq_false_iff, Bool.and_eq_false_iff, decide_eq_false_iff_not, decide_eq_true_eq, Bool.not_eq_true, Bool.not_eq_false'] at *); (try unfold R64); omega)) ?_)
  refine call_of (c71 _ _ (by omega) (by omega) (by omega) (by omega) _) ?_
  exact end_keep (.imm _) rfl
theorem c76 (x : Int) (H : Hp) : Ret Try.prog 76 [I x] H (B (decide (x < -32768) || decide (32767 < x))) H := by
  refine mk76 _ rfl (Nat.le_refl _) (.inl rfl) ?_
  simp only [vc76, real]
  simp only [nod_imm, Try.underlying3, e_gtr, e_lss, e_gF, j_or', j_one]
  exact end_keep (.imm _) rfl
theorem c52 (a : List Int) (num den : Int) (H : Hp) (hl : a.length ≤ 1000000000) : Ret Try.prog 52 [ints a .no, I num, I den] H (gainV a num den) H := by
  refine mk52 _ _ _ (gainV_nd _ _ _) (Nat.le_refl _) (.inl rfl) ?_
  simp only [vc52, real]
  simp only [Jn, nod_ints, nd_no, nod_nod, Try.underlying25, List.getD_cons_succ, List.getD_cons_zero, nod_imm, Try.underlying3, e_gtr, e_lss, e_len, e_mk, Int.toNat_natCast, cl_imm, rep_fl, e_gF, j_or', j_one, e_cond]
  refine call_of (c73 a _ hl) ?_
  simp only [nod_imm, e_neq, e_cond, Bool.not_eq_true', decide_eq_false_iff_not]
  unfold gainV gainE
  by_cases he : waveE a = 0
  · rw [if_neg (by simp [he]), if_neg (c := waveE a ≠ 0) (by simp [he])]
    by_cases ho : outB num den = true
    · rw [if_pos (show (decide (num < 0) || decide (1000000 < num) || decide (den < 1) || decide (1000000 < den)) = true from ho), if_pos ho, if_pos (by decide)]
      exact end3 rfl rfl rfl fz0 (fzI _) (fzI _)
    · rw [if_neg (show ¬ (decide (num < 0) || decide (1000000 < num) || decide (den < 1) || decide (1000000 < den)) = true from ho), if_neg ho, if_neg (by simp)]
      have hw := waveE_zero he
      have hs := hw.2
      have hl := hw.1
      unfold outB at ho
      simp only [Bool.or_eq_true, decide_eq_true_eq] at ho
      refine ⟨by omega, by omega, ?_⟩
      refine loop_of (fun i : Nat => i ≤ a.length) (fun i => [I num, I den, .sl H.length 0 a.length a.length, I (gainC a num den i), ints a .no, I a.length, I i]) (fun i => H ++ [.cells ((fill a.length (fun i => clipV (gv num den (a.getD i 0))) i).map I)]) (fun i => a.length - i) 0 (by omega) rfl (by simp [fill_zero]) ?_
      intro i hi
      have hg := gainC_bd a num den i
      simp only [List.getD_cons_succ, List.getD_cons_zero, nod_imm, nod_ints, nd_no, nod_sl, e_add, e_ixS, Int.toNat_natCast, Nat.mul_one, Nat.zero_add, nod_ptr, e_ix, nod_cptr, e_ldc, e_lss, e_cond, decide_eq_true_eq]
      split
      · rename_i hlt
        have hlt' : i < a.length := by omega
        have hx := hs i
        repeat (refine And.intro (by first | (unfold R64; omega) | omega | assumption | (intros; (try simp only [Bool.or_eq_true, Bool.and_eq_true, Bool.not_eq_true', Bool.or_eq_false_iff, Bool.and_eq_false_iff, decide_eq_false_iff_not, decide_eq_true_eq, Bool.not_eq_true, Bool.not_eq_false'] at *); (try unfold R64); omega)) ?_)
        refine call_of (c75 (a.getD i 0) num den _ hx.1 hx.2 (by omega) (by omega) (by omega) (by omega)) ?_
        refine call_of (c76 _ _) ?_
        have ec : (decide (gv num den (a.getD i 0) < -32768) || decide (32767 < gv num den (a.getD i 0))) = !decide (gv num den (a.getD i 0) = clipV (gv num den (a.getD i 0))) := by
          rw [Bool.eq_iff_iff]
          simp only [Bool.or_eq_true, decide_eq_true_eq, Bool.not_eq_true', decide_eq_false_iff_not]
          unfold clipV
          omega
        rw [ec]
        have em : min 32767 (max (-32768) (gv num den (a.getD i 0))) = clipV (gv num den (a.getD i 0)) := by unfold clipV; omega
        simp only [nod_imm, e_max2, e_min2, e_sI0, e_cond, Bool.not_eq_true', decide_eq_false_iff_not]
        by_cases hc : gv num den (a.getD i 0) = clipV (gv num den (a.getD i 0))
        · rw [if_neg (by simpa using hc)]
          simp only [fill_length]
          refine ⟨by omega, by omega, hlt', (by unfold R64; omega), i + 1, by omega, ?_, ?_, by omega⟩
          · rw [gainC, if_pos hc, Int.add_zero]; rfl
          · rw [em, ← fill_set _ _ _ hlt']
        · rw [if_pos (by simpa using hc)]
          simp only [fill_length]
          refine ⟨(by unfold R64; omega), by omega, by omega, hlt', (by unfold R64; omega), i + 1, by omega, ?_, ?_, by omega⟩
          · rw [gainC, if_neg hc]; rfl
          · rw [em, ← fill_set _ _ _ hlt']
      · have : i = a.length := by omega
        subst this
        refine end3A rfl rfl rfl ?_ (fzI _) (fzI _)
        unfold gainL
        rw [← fill_all]
        exact fz_ints (Nat.le_refl _) (by rw [tail0]; rfl) (fill_length _ _ _)
  · rw [if_pos he, if_pos (c := waveE a ≠ 0) he, if_pos he]
    exact end3 rfl rfl rfl fz0 (fzI _) (fzI _)
end Go.Proofs.Ytehjfjdknllmhaa
