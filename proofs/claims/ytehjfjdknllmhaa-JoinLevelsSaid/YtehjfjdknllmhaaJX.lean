/- Contracts of join's functions: loudness. -/
import Derived.Test.YtehjfjdknllmhaaJR
import Derived.Test.YtehjfjdknllmhaaJW
set_option linter.unusedVariables false
set_option linter.unusedSimpArgs false
set_option linter.unnecessarySimpa false
set_option maxRecDepth 20000
set_option maxHeartbeats 2000000
namespace Go.Proofs.Ytehjfjdknllmhaa
open Go Go.Ab Go.Proofs
attribute [local congr] g_bin g_nilS g_nilP g_un g_ext g_bx g_fa g_ld g_st g_ix g_ixA g_slc g_mk g_bs g_bd g_nc g_cv g_len g_lenT g_app g_appB g_cpy g_mm g_call g_callG g_calm g_calmG g_range g_res g_pick g_cond g_loop g_Jv
def sqS (a : List Int) : Nat → Int
  | 0 => 0
  | i + 1 => sqS a i + a.getD i 0 * a.getD i 0
theorem sq_bd {x M : Int} (h1 : -M ≤ x) (h2 : x ≤ M) : 0 ≤ x * x ∧ x * x ≤ M * M := by
  refine ⟨sqn x, ?_⟩
  rcases Int.le_total 0 x with h | h
  · exact Int.mul_le_mul h2 h2 h (by omega)
  · have := Int.mul_le_mul (a := -x) (b := -x) (c := M) (d := M) (by omega) (by omega) (by omega) (by omega)
    have e : -x * -x = x * x := Int.neg_mul_neg x x
    rw [e] at this
    exact this
theorem sqS_bd {a : List Int} {M : Int} : ∀ K : Nat, (∀ i, i < K → -M ≤ a.getD i 0 ∧ a.getD i 0 ≤ M) → 0 ≤ sqS a K ∧ sqS a K ≤ K * (M * M)
  | 0, _ => by simp [sqS]
  | K + 1, h => by
    have ih := sqS_bd K (fun i hi => h i (by omega))
    have := h K (by omega)
    have := sq_bd this.1 this.2
    rw [sqS, Int.natCast_add, Int.add_mul]
    omega
theorem sqS_smp {a : List Int} (h : Smp a) (K : Nat) : 0 ≤ sqS a K ∧ sqS a K ≤ K * 1073741824 := sqS_bd (M := 32768) K (fun i _ => by have := h i; omega)
theorem c90 (a : List Int) (H : Hp) (h : Smp a) (hl : a.length ≤ 1000000) : Ret Try.prog 90 [ints a .no] H (I (sqS a a.length)) H := by
  refine mk90 _ rfl (Nat.le_refl _) (.inl rfl) ?_
  simp only [vc90, real]
  simp only [nod_ints, nd_no, Try.underlying3, nod_nod, e_len]
  refine loop_of (fun i : Nat => i ≤ a.length) (fun i => [I (sqS a i), ints a .no, I a.length, I i]) (fun _ => H) (fun i => a.length - i) 0 (by omega) rfl rfl ?_
  intro i hi
  have hb := sqS_smp h i
  have hx := h i
  have hq := sq_bd (x := a.getD i 0) (M := 32768) (by omega) (by omega)
  simp only [List.getD_cons_succ, List.getD_cons_zero, nod_imm, nod_ints, nd_no, e_add, e_ix, Int.toNat_natCast, nod_cptr, e_ldc, true_and, e_mul, e_lss, e_cond, decide_eq_true_eq]
  split
  · rename_i hlt
    repeat (refine And.intro (by first | (unfold R64; omega) | omega | assumption | (intros; (try simp only [Bool.or_eq_true, Bool.and_eq_true, Bool.not_eq_true', Bool.or_eq_false_iff, Bool.and_eq_false_iff, decide_eq_false_iff_not, decide_eq_true_eq, Bool.not_eq_true, Bool.not_eq_false'] at *); (try unfold R64); omega)) ?_)
    exact ⟨i + 1, by omega, rfl, by omega⟩
  · have : i = a.length := by omega
    subst this
    exact end1 (fzI _)
def rootP (n m : Int) : Bool := decide (m * m ≤ n)
def rootV (n : Int) : Int := bsr (rootP n) 65535 0 65536
theorem rootV_spec {n : Int} (h0 : 0 ≤ n) (h1 : n < 65536 * 65536) : 0 ≤ rootV n ∧ rootV n < 65536 ∧ rootV n * rootV n ≤ n ∧ n < (rootV n + 1) * (rootV n + 1) := by
  have := bsr_spec (rootP n) 65535 0 65536 (by omega) (by omega) (by omega)
  unfold rootV
  generalize bsr (rootP n) 65535 0 65536 = r at *
  refine ⟨this.1, this.2.1, ?_, ?_⟩
  · rcases this.2.2.1 with e | e
    · subst e; simpa using h0
    · simpa [rootP] using e
  · rcases this.2.2.2 with e | e
    · rw [e]; exact h1
    · simpa [rootP] using e
theorem c89 (n : Int) (H : Hp) : Ret Try.prog 89 [I n] H (I (rootV n)) H := by
  refine mk89 _ rfl (Nat.le_refl _) (.inl rfl) ?_
  simp only [vc89, real]
  simp only [nod_nod, Try.underlying3, Jn, List.getD_cons_succ, List.getD_cons_zero]
  refine loop_of (fun s : Int × Int => 0 ≤ s.1 ∧ s.1 < s.2 ∧ s.2 ≤ 65536 ∧ ∃ f : Nat, s.2 - s.1 - 1 ≤ f ∧ bsr (rootP n) f s.1 s.2 = rootV n) (fun s => [I n, I s.1, I s.2]) (fun _ => H) (fun s => (s.2 - s.1).toNat) (0, 65536) ⟨by decide, by decide, by decide, 65535, by decide, rfl⟩ rfl rfl ?_
  intro s hs
  obtain ⟨h0, h1, h2, g, hg, he⟩ := hs
  simp only [List.getD_cons_succ, List.getD_cons_zero, nod_imm, true_and, e_add, e_quo, e_mul, e_leq, e_cond, decide_eq_true_eq, e_sub, e_gtr]
  refine ⟨(by unfold R64; omega), ?_⟩
  by_cases h : 1 < s.2 - s.1
  · have m := mid_bd h0 h
    obtain ⟨g, rfl⟩ : ∃ g', g = g' + 1 := ⟨g - 1, by omega⟩
    rw [bsr, if_pos h] at he
    rw [if_pos h]
    generalize (s.1 + s.2).tdiv 2 = c at *
    have hq := sq_bd (x := c) (M := 65536) (by omega) (by omega)
    refine ⟨(by unfold R64; omega), by decide, (by unfold R64; omega), (by unfold R64; omega), ?_⟩
    by_cases hp : rootP n c = true
    · rw [if_pos hp] at he
      rw [if_pos (by simpa [rootP] using hp)]
      exact ⟨(c, s.2), ⟨by show 0 ≤ c; omega, by show c < s.2; omega, h2, g, by show s.2 - c - 1 ≤ _; omega, he⟩, rfl, by show (s.2 - c).toNat < _; omega⟩
    · rw [if_neg hp] at he
      rw [if_neg (by simpa [rootP] using hp)]
      exact ⟨(s.1, c), ⟨h0, by show s.1 < c; omega, by show c ≤ _; omega, g, by show c - s.1 - 1 ≤ _; omega, he⟩, rfl, by show (c - s.1).toNat < _; omega⟩
  · rw [if_neg h]
    have : s.1 = rootV n := by
      rw [← he]
      cases g with
      | zero => rfl
      | succ g => rw [bsr, if_neg h]
    rw [this]
    exact end1 (fzI _)
def loudV (a : List Int) : Int := rootV ((sqS a a.length).tdiv a.length)
theorem mean_bd {a : List Int} (h : Smp a) (h0 : a.length ≠ 0) : 0 ≤ (sqS a a.length).tdiv a.length ∧ (sqS a a.length).tdiv a.length ≤ 1073741824 := by
  have hb := sqS_smp h a.length
  rw [Int.tdiv_eq_ediv_of_nonneg hb.1]
  refine ⟨Int.ediv_nonneg hb.1 (by omega), ?_⟩
  exact Int.ediv_le_of_le_mul (by omega) (by rw [Int.mul_comm]; exact hb.2)
theorem c74 (a : List Int) (H : Hp) (h : Smp a) (hl : a.length ≤ 1000000) (h0 : a.length ≠ 0) : Ret Try.prog 74 [ints a .no] H (I (loudV a)) H := by
  have hm := mean_bd h h0
  refine mk74 _ rfl (Nat.le_refl _) (.inl rfl) ?_
  simp only [vc74, real]
  simp only [nod_ints, nd_no, Try.underlying3, e_len, nod_imm]
  refine call_of (c90 a _ h hl) ?_
  simp only [nod_imm, e_quo]
  refine ⟨by omega, (by unfold R64; omega), ?_⟩
  refine call_of (c89 _ _) ?_
  exact end1 (fzI _)
theorem c49 (a : List Int) (H : Hp) (hl : a.length ≤ 1000000000) : Ret Try.prog 49 [ints a .no] H (.tup [I (if waveE a = 0 ∧ a.length ≠ 0 then loudV a else 0), I (if waveE a ≠ 0 then waveE a else if a.length = 0 then 2 else 0)]) H := by
  refine mk49 _ rfl (Nat.le_refl _) (.inl rfl) ?_
  simp only [vc49, real]
  simp only [nod_ints, nd_no, nod_nod, Try.underlying25, Jn, Try.underlying3, List.getD_cons_succ, List.getD_cons_zero, e_len, nod_imm, e_eql, e_cond, decide_eq_true_eq]
  refine call_of (c73 a _ hl) ?_
  by_cases hw : waveE a = 0
  · have hA := waveE_zero hw
    by_cases h0 : a.length = 0
    · have d : (a.length : Int) = 0 := by omega
      rw [if_neg (fun h => h.2 h0), if_neg (by simp [hw]), if_pos h0]
      simp only [hw, nod_imm, d, if_true, e_neq, decide_true, Bool.not_true, e_cond, Bool.false_eq_true, if_false]
      exact end2 rfl rfl (fzI _) (fzI _)
    · have d : ¬ (a.length : Int) = 0 := by omega
      rw [if_pos ⟨hw, h0⟩, if_neg (by simp [hw]), if_neg h0]
      simp only [hw, nod_imm, e_neq, decide_true, Bool.not_true, e_cond, Bool.false_eq_true, if_false]
      rw [if_neg d]
      refine call_of (c74 a _ hA.2 (by omega) h0) ?_
      exact end2 rfl rfl (fzI _) (fzI _)
  · rw [if_neg (fun h => hw h.1), if_pos hw]
    simp only [nod_imm, e_neq, hw, decide_false, Bool.not_false, e_cond, if_true]
    exact end2 rfl rfl (fzI _) (fzI _)
theorem sq_lt {x y : Int} (hx : 0 ≤ x) (hy : 0 ≤ y) (h : x * x < (y + 1) * (y + 1)) : x ≤ y := by
  refine Decidable.byContradiction fun hn => ?_
  have := Int.mul_le_mul (a := y + 1) (b := y + 1) (c := x) (d := x) (by omega) (by omega) (by omega) (by omega)
  omega
theorem c51 (a : List Int) (H : Hp) (h : Smp a) (hl : a.length ≤ 1000000) (h0 : a.length ≠ 0) : Ret Try.prog 51 [ints a .no] H (I (loudV a)) H := by
  have hm := mean_bd h h0
  refine mk51 _ rfl (Nat.le_refl _) (.inl rfl) ?_
  simp only [vc51, real]
  simp only [nod_nod, Try.underlying3, Jn, List.getD_cons_succ, List.getD_cons_zero]
  refine loop_of (fun i : Nat => i ≤ a.length) (fun i => [ints a .no, I (sqS a i), I i]) (fun _ => H) (fun i => a.length - i) 0 (by omega) rfl rfl ?_
  intro i hi
  have hb := sqS_smp h i
  have hx := h i
  have hq := sq_bd (x := a.getD i 0) (M := 32768) (by omega) (by omega)
  simp only [List.getD_cons_zero, nod_ints, nd_no, List.getD_cons_succ, nod_imm, e_add, e_ix, Int.toNat_natCast, nod_cptr, e_ldc, true_and, e_mul, e_len, e_quo, e_lss, e_cond, decide_eq_true_eq]
  split
  · rename_i hlt
    repeat (refine And.intro (by first | (unfold R64; omega) | omega | assumption | (intros; (try simp only [Bool.or_eq_true, Bool.and_eq_true, Bool.not_eq_true', Bool.or_eq_false_iff, Bool.and_eq_false_iff, decide_eq_false_iff_not, decide_eq_true_eq, Bool.not_eq_true, Bool.not_eq_false'] at *); (try unfold R64); omega)) ?_)
    exact ⟨i + 1, by omega, rfl, by omega⟩
  · have : i = a.length := by omega
    subst this
    have hs := rootV_spec hm.1 (by omega)
    unfold loudV
    generalize (sqS a a.length).tdiv a.length = n at *
    refine ⟨by omega, (by unfold R64; omega), ?_⟩
    refine loop_of (fun i : Nat => (i : Int) ≤ rootV n) (fun i => [I n, I i]) (fun _ => H) (fun i => (rootV n).toNat - i) 0 (by omega) rfl rfl ?_
    intro i hi
    have hq := sq_bd (x := (i : Int) + 1) (M := 65536) (by omega) (by omega)
    simp only [List.getD_cons_succ, List.getD_cons_zero, nod_imm, true_and, e_add, e_mul, e_leq, e_cond, decide_eq_true_eq]
    refine ⟨(by unfold R64; omega), (by unfold R64; omega), (by unfold R64; omega), ?_⟩
    split
    · rename_i hle
      have := sq_lt (x := (i : Int) + 1) (y := rootV n) (by omega) hs.1 (by omega)
      refine ⟨(by unfold R64; omega), i + 1, by omega, rfl, by omega⟩
    · rename_i hle
      have := sq_lt (x := rootV n) (y := i) hs.1 (by omega) (by omega)
      have : (i : Int) = rootV n := by omega
      rw [← this]
      exact end1 (fzI _)
end Go.Proofs.Ytehjfjdknllmhaa
