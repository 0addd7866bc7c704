/- Contracts of join's functions: steps. -/
import Derived.Test.YtehjfjdknllmhaaJP
set_option linter.unusedVariables false
set_option linter.unusedSimpArgs false
set_option linter.unnecessarySimpa false
set_option maxRecDepth 20000
set_option maxHeartbeats 2000000
namespace Go.Proofs.Ytehjfjdknllmhaa
open Go Go.Ab Go.Proofs
attribute [local congr] g_bin g_nilS g_nilP g_un g_ext g_bx g_fa g_ld g_st g_ix g_ixA g_slc g_mk g_bs g_bd g_nc g_cv g_len g_lenT g_app g_appB g_cpy g_mm g_call g_callG g_calm g_calmG g_range g_res g_pick g_cond g_loop g_Jv
def stepS (a : List Int) : Nat → Int
  | 0 => 0
  | i + 1 => max (max (stepS a i) (a.getD (i + 1) 0 - a.getD i 0)) (a.getD i 0 - a.getD (i + 1) 0)
def stepV (a : List Int) : Int := stepS a (a.length - 1)
theorem stepS_bd {a : List Int} (h : Smp a) : ∀ i : Nat, 0 ≤ stepS a i ∧ stepS a i ≤ 65535
  | 0 => by simp [stepS]
  | i + 1 => by
    have ih := stepS_bd h i
    have h1 := h i
    have h2 := h (i + 1)
    rw [stepS]
    omega
theorem stepS_ge (a : List Int) : ∀ K i : Nat, i < K → a.getD (i + 1) 0 - a.getD i 0 ≤ stepS a K ∧ a.getD i 0 - a.getD (i + 1) 0 ≤ stepS a K
  | 0, i, h => absurd h (Nat.not_lt_zero _)
  | K + 1, i, h => by
    rw [stepS]
    by_cases hk : i < K
    · have ih := stepS_ge a K i hk
      omega
    · have : i = K := by omega
      subst this
      omega
theorem stepS_le (a : List Int) (M : Int) (h0 : 0 ≤ M) : ∀ K : Nat, (∀ i, i < K → a.getD (i + 1) 0 - a.getD i 0 ≤ M ∧ a.getD i 0 - a.getD (i + 1) 0 ≤ M) → stepS a K ≤ M
  | 0, _ => h0
  | K + 1, h => by
    have ih := stepS_le a M h0 K (fun i hi => h i (by omega))
    have := h K (by omega)
    rw [stepS]
    omega
theorem c50 (a : List Int) (H : Hp) (h : Smp a) (hl : a.length ≤ 1000000) : Ret Try.prog 50 [ints a .no] H (I (stepV a)) H := by
  refine mk50 _ rfl (Nat.le_refl _) (.inl rfl) ?_
  simp only [vc50, real]
  simp only [nod_nod, Try.underlying3, Jn, List.getD_cons_succ, List.getD_cons_zero]
  refine loop_of (fun i : Nat => i ≤ a.length - 1) (fun i => [ints a .no, I (stepS a i), I (i + 1)]) (fun _ => H) (fun i => a.length - i) 0 (by omega) rfl rfl ?_
  intro i hi
  have hb := stepS_bd h i
  have h1 := h i
  have h2 := h (i + 1)
  simp only [List.getD_cons_zero, nod_ints, nd_no, List.getD_cons_succ, nod_imm, e_add, e_ix, nod_cptr, e_ldc, e_sub, true_and, e_max3, e_len, e_lss, e_cond, decide_eq_true_eq]
  have e1 : ((i : Int) + 1).toNat = i + 1 := by omega
  have e2 : ((i : Int) + 1 - 1).toNat = i := by omega
  rw [e1, e2]
  split
  · rename_i hlt
    repeat (refine And.intro (by first | (unfold R64; omega) | omega | assumption | (intros; (try simp only [Bool.or_eq_true, Bool.and_eq_true, Bool.not_eq_true', Bool.or_eq_false_iff, Bool.and_eq_false_iff, decide_eq_false_iff_not, decide_eq_true_eq, Bool.not_eq_true, Bool.not_eq_false'] at *); (try unfold R64); omega)) ?_)
    refine ⟨i + 1, by omega, ?_, by omega⟩
    rfl
  · have : i = a.length - 1 := by omega
    subst this
    exact end1 (fzI _)
theorem c47 (a : List Int) (H : Hp) (hl : a.length ≤ 1000000000) : Ret Try.prog 47 [ints a .no] H (.tup [I (if waveE a = 0 then stepV a else 0), I (waveE a)]) H := by
  refine mk47 _ rfl (Nat.le_refl _) (.inl rfl) ?_
  simp only [vc47, real]
  simp only [nod_ints, nd_no, nod_nod, Try.underlying25, Jn, List.getD_cons_zero, List.getD_cons_succ, Try.underlying3]
  refine call_of (c73 a _ hl) ?_
  simp only [nod_imm, e_neq, e_cond, Bool.not_eq_true', decide_eq_false_iff_not]
  by_cases hw : waveE a = 0
  · rw [if_neg (by simp [hw]), if_pos hw]
    have hz := waveE_zero hw
    have h := hz.2
    have hl := hz.1
    refine loop_of (fun i : Nat => i ≤ a.length - 1) (fun i => [ints a .no, I (stepS a i), I (i + 1)]) (fun _ => H) (fun i => a.length - i) 0 (by omega) rfl rfl ?_
    intro i hi
    have hb := stepS_bd h i
    have h1 := h i
    have h2 := h (i + 1)
    simp only [List.getD_cons_zero, nod_ints, nd_no, List.getD_cons_succ, nod_imm, e_add, e_ix, nod_cptr, e_ldc, e_sub, true_and, e_max3, e_len, e_lss, e_cond, decide_eq_true_eq]
    have e1 : ((i : Int) + 1).toNat = i + 1 := by omega
    have e2 : ((i : Int) + 1 - 1).toNat = i := by omega
    rw [e1, e2]
    split
    · rename_i hlt
      repeat (refine And.intro (by first | (unfold R64; omega) | omega | assumption | (intros; (try simp only [Bool.or_eq_true, Bool.and_eq_true, Bool.not_eq_true', Bool.or_eq_false_iff, Bool.and_eq_false_iff, decide_eq_false_iff_not, decide_eq_true_eq, Bool.not_eq_true, Bool.not_eq_false'] at *); (try unfold R64); omega)) ?_)
      refine ⟨i + 1, by omega, ?_, by omega⟩
      rfl
    · have : i = a.length - 1 := by omega
      subst this
      rw [hw]
      exact end2 rfl rfl (fzI _) (fzI _)
  · rw [if_pos hw, if_neg hw]
    exact end2 rfl rfl (fzI _) (fzI _)
/-! ### Joined waves -/
theorem rnd_near {a b : Int} (hb : 0 < b) : 2 * (b * rnd a b - a) ≤ b ∧ 2 * (a - b * rnd a b) ≤ b := by
  rw [rnd_ediv a b hb]
  have key : ∀ x : Int, 0 ≤ x → 2 * (b * ((2 * x + b) / (2 * b)) - x) ≤ b ∧ 2 * (x - b * ((2 * x + b) / (2 * b))) ≤ b := by
    intro x hx
    have h1 := Int.emod_add_mul_ediv (2 * x + b) (2 * b)
    have h2 := Int.emod_nonneg (2 * x + b) (show 2 * b ≠ 0 by omega)
    have h3 := Int.emod_lt_of_pos (2 * x + b) (show 0 < 2 * b by omega)
    have e : 2 * b * ((2 * x + b) / (2 * b)) = 2 * (b * ((2 * x + b) / (2 * b))) := by rw [Int.mul_assoc]
    generalize (2 * x + b) / (2 * b) = q at *
    generalize (2 * x + b) % (2 * b) = r at *
    rw [e] at h1
    generalize b * q = y at *
    omega
  split
  · have := key (-a) (by omega)
    rw [Int.mul_neg]
    omega
  · exact key a (by omega)
theorem join_lo {a b : List Int} {n k : Int} (he : existsB a b n k = true) (j : Nat) (hj : (j : Int) < a.length - n) : (joinL a b n k).getD j 0 = a.getD j 0 := by
  have hx := existsB_iff.1 he
  unfold joinL
  rw [List.getD_eq_getElem?_getD, List.getElem?_append_left (by simp only [List.length_take]; omega), List.getElem?_take_of_lt (by omega), ← List.getD_eq_getElem?_getD]
theorem join_mid {a b : List Int} {n k : Int} (he : existsB a b n k = true) (i : Nat) (hi : (i : Int) < n) : (joinL a b n k).getD ((a.length - n).toNat + i) 0 =
    rnd ((n - i) * a.getD ((a.length - n).toNat + i) 0 + (i + 1) * b.getD (k.toNat + i) 0) (n + 1) := by
  have hx := existsB_iff.1 he
  have hl : (a.drop ((a.length : Int) - n).toNat).length = n.toNat := by simp only [List.length_drop]; omega
  have ht : (a.take ((a.length : Int) - n).toNat).length = ((a.length : Int) - n).toNat := by simp only [List.length_take]; omega
  unfold joinL
  rw [List.getD_eq_getElem?_getD, List.getElem?_append_right (by rw [ht]; omega), ht, Nat.add_sub_cancel_left, List.getElem?_append_left (by rw [fadeL_length, hl]; omega)]
  unfold fadeL
  rw [List.getElem?_map, List.getElem?_range (by omega), hl]
  show fadeV _ _ n.toNat i = _
  unfold fadeV
  have e1 : (a.drop ((a.length : Int) - n).toNat).getD i 0 = a.getD (((a.length : Int) - n).toNat + i) 0 := drop_getD _ _ _
  have e2 : ((b.take (k + n).toNat).drop k.toNat).getD i 0 = b.getD (k.toNat + i) 0 := by
    rw [drop_getD, List.getD_eq_getElem?_getD, List.getElem?_take_of_lt (by omega), ← List.getD_eq_getElem?_getD]
  have e3 : (n.toNat : Int) = n := by omega
  rw [e1, e2, e3]
theorem join_hi {a b : List Int} {n k : Int} (he : existsB a b n k = true) (i : Nat) : (joinL a b n k).getD (a.length + i) 0 = b.getD ((k + n).toNat + i) 0 := by
  have hx := existsB_iff.1 he
  have hl : (a.drop ((a.length : Int) - n).toNat).length = n.toNat := by simp only [List.length_drop]; omega
  have ht : (a.take ((a.length : Int) - n).toNat).length = ((a.length : Int) - n).toNat := by simp only [List.length_take]; omega
  unfold joinL
  rw [List.getD_eq_getElem?_getD, List.getElem?_append_right (by rw [ht]; omega), ht, List.getElem?_append_right (by rw [fadeL_length, hl]; omega), fadeL_length, hl, ← List.getD_eq_getElem?_getD, drop_getD]
  congr 1
  omega
/-- The greatest difference in the overlap. -/
def dS (a b : List Int) (n k : Int) : Nat → Int
  | 0 => 0
  | i + 1 => max (max (dS a b n k i) (a.getD ((a.length - n).toNat + i) 0 - b.getD (k.toNat + i) 0)) (b.getD (k.toNat + i) 0 - a.getD ((a.length - n).toNat + i) 0)
theorem dS_ge (a b : List Int) (n k : Int) : ∀ K i : Nat, i < K → 0 ≤ dS a b n k K ∧ a.getD ((a.length - n).toNat + i) 0 - b.getD (k.toNat + i) 0 ≤ dS a b n k K ∧ b.getD (k.toNat + i) 0 - a.getD ((a.length - n).toNat + i) 0 ≤ dS a b n k K
  | 0, i, h => absurd h (Nat.not_lt_zero _)
  | K + 1, i, h => by
    rw [dS]
    by_cases hk : i < K
    · have ih := dS_ge a b n k K i hk
      omega
    · have : i = K := by omega
      subst this
      cases i with
      | zero => rw [dS]; omega
      | succ i => have ih := dS_ge a b n k (i + 1) i (by omega); omega
theorem mulM {N c M : Int} (hN : 0 ≤ N) (h : c ≤ M) : N * c ≤ N * M := Int.mul_le_mul_of_nonneg_left h hN
/-- Inside the overlap. -/
theorem step_in {n i A A' B B' M d : Int} (hi : 0 ≤ i) (hn : i + 1 < n) (hA : A' - A ≤ M) (hB : B' - B ≤ M) (hd : B - A ≤ d) :
    (n + 1) * (rnd ((n - (i + 1)) * A' + (i + 1 + 1) * B') (n + 1) - rnd ((n - i) * A + (i + 1) * B) (n + 1) - 1 - M) ≤ d := by
  have r1 := (rnd_near (a := (n - (i + 1)) * A' + (i + 1 + 1) * B') (b := n + 1) (by omega)).1
  have r2 := (rnd_near (a := (n - i) * A + (i + 1) * B) (b := n + 1) (by omega)).2
  generalize rnd ((n - (i + 1)) * A' + (i + 1 + 1) * B') (n + 1) = R1 at *
  generalize rnd ((n - i) * A + (i + 1) * B) (n + 1) = R2 at *
  have m1 := mulM (N := n - i - 1) (by omega) hA
  have m2 := mulM (N := i + 2) (by omega) hB
  simp only [Int.mul_add, Int.add_mul, Int.mul_sub, Int.sub_mul, Int.one_mul, Int.mul_one] at *
  omega
/-- At the beginning of the overlap. -/
theorem step_at {n A A' B M d : Int} (hn : 0 < n) (hA : A' - A ≤ M) (hd : B - A' ≤ d) :
    (n + 1) * (rnd (n * A' + B) (n + 1) - A - 1 - M) ≤ d := by
  have r1 := (rnd_near (a := n * A' + B) (b := n + 1) (by omega)).1
  generalize rnd (n * A' + B) (n + 1) = R1 at *
  have m1 := mulM (N := n + 1) (by omega) hA
  simp only [Int.mul_add, Int.add_mul, Int.mul_sub, Int.sub_mul, Int.one_mul, Int.mul_one] at *
  omega
end Go.Proofs.Ytehjfjdknllmhaa
