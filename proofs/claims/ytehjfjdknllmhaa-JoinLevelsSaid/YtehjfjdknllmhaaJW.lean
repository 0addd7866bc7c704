/- Contracts of join's functions: the greatest gain. -/
import Derived.Test.YtehjfjdknllmhaaJP
set_option linter.unusedVariables false
set_option linter.unusedSimpArgs false
set_option linter.unnecessarySimpa false
set_option maxRecDepth 20000
set_option maxHeartbeats 2000000
namespace Go.Proofs.Ytehjfjdknllmhaa
open Go Go.Ab Go.Proofs
attribute [local congr] g_bin g_nilS g_nilP g_un g_ext g_bx g_fa g_ld g_st g_ix g_ixA g_slc g_mk g_bs g_bd g_nc g_cv g_len g_lenT g_app g_appB g_cpy g_mm g_call g_callG g_calm g_calmG g_range g_res g_pick g_cond g_loop g_Jv
def mnS (a : List Int) : Nat → Int
  | 0 => a.getD 0 0
  | i + 1 => min (mnS a i) (a.getD (i + 1) 0)
def mxS (a : List Int) : Nat → Int
  | 0 => a.getD 0 0
  | i + 1 => max (mxS a i) (a.getD (i + 1) 0)
def mnV (a : List Int) : Int := mnS a (a.length - 1)
def mxV (a : List Int) : Int := mxS a (a.length - 1)
theorem mnS_le (a : List Int) : ∀ K i : Nat, i ≤ K → mnS a K ≤ a.getD i 0
  | 0, i, h => by have : i = 0 := by omega
                  subst this; exact Int.le_refl _
  | K + 1, i, h => by
    rw [mnS]
    by_cases hk : i ≤ K
    · have := mnS_le a K i hk; omega
    · have : i = K + 1 := by omega
      subst this; omega
theorem mxS_ge (a : List Int) : ∀ K i : Nat, i ≤ K → a.getD i 0 ≤ mxS a K
  | 0, i, h => by have : i = 0 := by omega
                  subst this; exact Int.le_refl _
  | K + 1, i, h => by
    rw [mxS]
    by_cases hk : i ≤ K
    · have := mxS_ge a K i hk; omega
    · have : i = K + 1 := by omega
      subst this; omega
theorem mnS_mem (a : List Int) : ∀ K : Nat, ∃ i, i ≤ K ∧ mnS a K = a.getD i 0
  | 0 => ⟨0, Nat.le_refl _, rfl⟩
  | K + 1 => by
    obtain ⟨i, hi, e⟩ := mnS_mem a K
    rw [mnS]
    by_cases h : mnS a K ≤ a.getD (K + 1) 0
    · exact ⟨i, by omega, by omega⟩
    · exact ⟨K + 1, by omega, by omega⟩
theorem mxS_mem (a : List Int) : ∀ K : Nat, ∃ i, i ≤ K ∧ mxS a K = a.getD i 0
  | 0 => ⟨0, Nat.le_refl _, rfl⟩
  | K + 1 => by
    obtain ⟨i, hi, e⟩ := mxS_mem a K
    rw [mxS]
    by_cases h : a.getD (K + 1) 0 ≤ mxS a K
    · exact ⟨i, by omega, by omega⟩
    · exact ⟨K + 1, by omega, by omega⟩
theorem mn_bd {a : List Int} (h : Smp a) : -32768 ≤ mnV a ∧ mnV a ≤ 32767 := by
  obtain ⟨i, -, e⟩ := mnS_mem a (a.length - 1)
  unfold mnV
  rw [e]; exact h i
theorem mx_bd {a : List Int} (h : Smp a) : -32768 ≤ mxV a ∧ mxV a ≤ 32767 := by
  obtain ⟨i, -, e⟩ := mxS_mem a (a.length - 1)
  unfold mxV
  rw [e]; exact h i
theorem c91 (a : List Int) (H : Hp) (h : a ≠ []) (hl : a.length ≤ 1000000000) : Ret Try.prog 91 [ints a .no] H (I (mnV a)) H := by
  have hpos := List.length_pos_iff.2 h
  refine mk91 _ rfl (Nat.le_refl _) (.inl rfl) ?_
  simp only [vc91, real]
  simp only [Jn, nod_ints, nd_no, Try.underlying3, List.getD_cons_zero, nod_nod, e_ix, nod_cptr, e_ldc, e_len, nod_imm, e_lss, e_cond, decide_eq_true_eq]
  rw [if_neg (by omega)]
  refine ⟨by omega, by omega, ?_⟩
  refine loop_of (fun i : Nat => i ≤ a.length - 1) (fun i => [ints a .no, I (mnS a i), I (i + 1)]) (fun _ => H) (fun i => a.length - i) 0 (by omega) rfl rfl ?_
  intro i hi
  simp only [List.getD_cons_zero, nod_ints, nd_no, List.getD_cons_succ, nod_imm, e_add, e_ix, nod_cptr, e_ldc, true_and, e_min2, e_len, e_lss, e_cond, decide_eq_true_eq]
  have e1 : ((i : Int) + 1).toNat = i + 1 := by omega
  rw [e1]
  split
  · repeat (refine And.intro (by first | (unfold R64; omega) | omega | assumption | (intros; (try simp only [Bool.or_eq_true, Bool.and_eq_true, Bool.not_eq_true', Bool.or_eq_false_iff, Bool.and_eq_false_iff, decide_eq_false_iff_not, decide_eq_true_eq, Bool.not_eq_true, Bool.not_eq_false'] at *); (try unfold R64); omega)) ?_)
    exact ⟨i + 1, by omega, rfl, by omega⟩
  · have : i = a.length - 1 := by omega
    subst this
    exact end1 (fzI _)
theorem c92 (a : List Int) (H : Hp) (h : a ≠ []) (hl : a.length ≤ 1000000000) : Ret Try.prog 92 [ints a .no] H (I (mxV a)) H := by
  have hpos := List.length_pos_iff.2 h
  refine mk92 _ rfl (Nat.le_refl _) (.inl rfl) ?_
  simp only [vc92, real]
  simp only [Jn, nod_ints, nd_no, Try.underlying3, List.getD_cons_zero, nod_nod, e_ix, nod_cptr, e_ldc, e_len, nod_imm, e_lss, e_cond, decide_eq_true_eq]
  rw [if_neg (by omega)]
  refine ⟨by omega, by omega, ?_⟩
  refine loop_of (fun i : Nat => i ≤ a.length - 1) (fun i => [ints a .no, I (mxS a i), I (i + 1)]) (fun _ => H) (fun i => a.length - i) 0 (by omega) rfl rfl ?_
  intro i hi
  simp only [List.getD_cons_zero, nod_ints, nd_no, List.getD_cons_succ, nod_imm, e_add, e_ix, nod_cptr, e_ldc, true_and, e_max2, e_len, e_lss, e_cond, decide_eq_true_eq]
  have e1 : ((i : Int) + 1).toNat = i + 1 := by omega
  rw [e1]
  split
  · repeat (refine And.intro (by first | (unfold R64; omega) | omega | assumption | (intros; (try simp only [Bool.or_eq_true, Bool.and_eq_true, Bool.not_eq_true', Bool.or_eq_false_iff, Bool.and_eq_false_iff, decide_eq_false_iff_not, decide_eq_true_eq, Bool.not_eq_true, Bool.not_eq_false'] at *); (try unfold R64); omega)) ?_)
    exact ⟨i + 1, by omega, rfl, by omega⟩
  · have : i = a.length - 1 := by omega
    subst this
    exact end1 (fzI _)
/-! ### Halving -/
def bsr (p : Int → Bool) : Nat → Int → Int → Int
  | 0, lo, _ => lo
  | f + 1, lo, hi => if 1 < hi - lo then (if p ((lo + hi).tdiv 2) = true then bsr p f ((lo + hi).tdiv 2) hi else bsr p f lo ((lo + hi).tdiv 2)) else lo
theorem mid_bd {lo hi : Int} (h0 : 0 ≤ lo) (h : 1 < hi - lo) : lo < (lo + hi).tdiv 2 ∧ (lo + hi).tdiv 2 < hi := by
  rw [Int.tdiv_eq_ediv_of_nonneg (by omega)]
  omega
theorem bsr_spec (p : Int → Bool) : ∀ (f : Nat) (lo hi : Int), 0 ≤ lo → lo < hi → hi - lo - 1 ≤ f →
    lo ≤ bsr p f lo hi ∧ bsr p f lo hi < hi ∧ (bsr p f lo hi = lo ∨ p (bsr p f lo hi) = true) ∧ (bsr p f lo hi + 1 = hi ∨ p (bsr p f lo hi + 1) = false)
  | 0, lo, hi, h0, h1, h2 => by
    have : hi = lo + 1 := by omega
    subst this
    exact ⟨Int.le_refl _, by rw [bsr]; omega, .inl rfl, .inl rfl⟩
  | f + 1, lo, hi, h0, h1, h2 => by
    rw [bsr]
    by_cases h : 1 < hi - lo
    · rw [if_pos h]
      have m := mid_bd h0 h
      generalize (lo + hi).tdiv 2 = c at *
      by_cases hp : p c = true
      · rw [if_pos hp]
        have ih := bsr_spec p f c hi (by omega) (by omega) (by omega)
        refine ⟨by omega, ih.2.1, ?_, ih.2.2.2⟩
        rcases ih.2.2.1 with e | e
        · exact .inr (by rw [e]; exact hp)
        · exact .inr e
      · rw [if_neg hp]
        have ih := bsr_spec p f lo c h0 (by omega) (by omega)
        refine ⟨ih.1, by omega, ih.2.2.1, ?_⟩
        rcases ih.2.2.2 with e | e
        · exact .inr (by rw [e]; simpa using hp)
        · exact .inr e
    · rw [if_neg h]
      exact ⟨Int.le_refl _, h1, .inl rfl, .inl (by omega)⟩
def grt (p : Int → Bool) : Int := bsr p 1000000 0 1000001
theorem grt_spec (p : Int → Bool) : 0 ≤ grt p ∧ grt p ≤ 1000000 ∧ (grt p = 0 ∨ p (grt p) = true) ∧ (grt p = 1000000 ∨ p (grt p + 1) = false) := by
  have := bsr_spec p 1000000 0 1000001 (by omega) (by omega) (by omega)
  unfold grt
  refine ⟨this.1, by omega, this.2.2.1, ?_⟩
  rcases this.2.2.2 with e | e
  · exact .inl (by omega)
  · exact .inr e
theorem c79 (f : Nat) (caps : List V) (p : Int → Bool) (H : Hp) (hf : ∀ m : Int, 0 ≤ m → m ≤ 1000000 → Ret Try.prog f (I m :: caps) H (B (p m)) H) : Ret Try.prog 79 [.fn f caps] H (I (grt p)) H := by
  refine mk79 _ rfl (Nat.le_refl _) (.inl rfl) ?_
  simp only [vc79, real]
  simp only [nod_nod, Try.underlying3, Jn, List.getD_cons_succ, List.getD_cons_zero]
  refine loop_of (fun s : Int × Int => 0 ≤ s.1 ∧ s.1 < s.2 ∧ s.2 ≤ 1000001 ∧ ∃ f : Nat, s.2 - s.1 - 1 ≤ f ∧ bsr p f s.1 s.2 = grt p) (fun s => [.fn f caps, I s.1, I s.2]) (fun _ => H) (fun s => (s.2 - s.1).toNat) (0, 1000001) ⟨by decide, by decide, by decide, 1000000, by decide, rfl⟩ rfl rfl ?_
  intro s hs
  obtain ⟨h0, h1, h2, g, hg, he⟩ := hs
  simp only [List.getD_cons_succ, List.getD_cons_zero, nod_imm, nod_fn, e_callG, e_add, e_quo, e_sub, e_gtr, e_cond, decide_eq_true_eq]
  refine ⟨(by unfold R64; omega), ?_⟩
  by_cases h : 1 < s.2 - s.1
  · have m := mid_bd h0 h
    obtain ⟨g, rfl⟩ : ∃ g', g = g' + 1 := ⟨g - 1, by omega⟩
    rw [bsr, if_pos h] at he
    rw [if_pos h]
    refine ⟨(by unfold R64; omega), by decide, (by unfold R64; omega), ?_⟩
    generalize (s.1 + s.2).tdiv 2 = c at *
    refine call_of (hf c (by omega) (by omega)) ?_
    simp only [nod_imm, true_and, e_cond]
    by_cases hp : p c = true
    · rw [if_pos hp] at he ⊢
      exact ⟨(c, s.2), ⟨by show 0 ≤ c; omega, by show c < s.2; omega, h2, g, by show s.2 - c - 1 ≤ _; omega, he⟩, rfl, by show (s.2 - c).toNat < _; omega⟩
    · rw [if_neg hp] at he ⊢
      exact ⟨(s.1, c), ⟨h0, by show s.1 < c; omega, by show c ≤ _; omega, g, by show c - s.1 - 1 ≤ _; omega, he⟩, rfl, by show (c - s.1).toNat < _; omega⟩
  · rw [if_neg h]
    have : s.1 = grt p := by
      rw [← he]
      cases g with
      | zero => rfl
      | succ g => rw [bsr, if_neg h]
    rw [this]
    exact end1 (fzI _)
/-! ### The greatest gain -/
theorem rnd_mono {a a' b : Int} (hb : 0 < b) (h : a ≤ a') : rnd a b ≤ rnd a' b := by
  rw [rnd_ediv a b hb, rnd_ediv a' b hb]
  have mono : ∀ x y : Int, x ≤ y → (2 * x + b) / (2 * b) ≤ (2 * y + b) / (2 * b) := fun x y hxy => Int.ediv_le_ediv (by omega) (by omega)
  have n0 : ∀ x : Int, 0 ≤ x → 0 ≤ (2 * x + b) / (2 * b) := fun x hx => Int.ediv_nonneg (by omega) (by omega)
  split
  · split
    · have := mono (-a') (-a) (by omega); omega
    · have h1 := n0 (-a) (by omega); have h2 := n0 a' (by omega); omega
  · rw [if_neg (by omega)]
    exact mono _ _ h
theorem gv_mono {x y num den : Int} (h : x ≤ y) (hn : 0 ≤ num) (hd : 0 < den) : gv num den x ≤ gv num den y := rnd_mono hd (Int.mul_le_mul_of_nonneg_right h hn)
theorem gv_zero {den x : Int} (hd : 0 < den) : gv 0 den x = 0 := by
  unfold gv
  have h1 := rnd_le (a := x * 0) (b := den) (M := 0) hd (by simp)
  have h2 := rnd_ge (a := x * 0) (b := den) (m := 0) hd (by simp)
  omega
def clp (x : Int) : Bool := decide (x < -32768) || decide (32767 < x)
def ldP (a : List Int) (den m : Int) : Bool := !clp (gv m den (mnV a)) && !clp (gv m den (mxV a))
def ldV (a : List Int) (den : Int) : Int := if a.length = 0 then 1000000 else grt (ldP a den)
theorem c93 (a : List Int) (den m : Int) (H : Hp) (ha : Smp a) (h3 : 0 ≤ m) (h4 : m ≤ 1000000) (h5 : 1 ≤ den) (h6 : den ≤ 1000000) :
    Ret Try.prog 93 [I m, .ptr H.length 0, .cptr (I den), .ptr (H.length + 1) 0] (H ++ [.cells [I (mnV a)], .cells [I (mxV a)]]) (B (ldP a den m)) (H ++ [.cells [I (mnV a)], .cells [I (mxV a)]]) := by
  have b1 := mn_bd ha
  have b2 := mx_bd ha
  refine mk93 _ _ _ _ rfl (Nat.le_refl _) (.inl rfl) ?_
  simp only [vc93, real]
  simp only [nod_ptr, nod_cptr, nod_imm, e_ldc, e_lc0, Nat.zero_add, lv_cons, lv_nil, Nat.reduceLeDiff, List.getD_cons_zero, true_and]
  refine call_of (c75 _ m den _ b1.1 b1.2 h3 (by omega) h5 h6) ?_
  simp only [nod_imm]
  refine call_of (c76 _ _) ?_
  show aUn .not (B (clp (gv m den (mnV a)))) _
  unfold ldP
  cases h : clp (gv m den (mnV a))
  · simp only [e_lc1, Nat.zero_add, lv_cons, List.length_nil, Nat.reduceLeDiff, List.getD_cons_zero, nod_imm, true_and, Bool.not_false, Bool.true_and, e_not, e_gT, cond_true]
    refine call_of (c75 _ m den _ b2.1 b2.2 h3 (by omega) h5 h6) ?_
    simp only [nod_imm]
    refine call_of (c76 _ _) ?_
    show aUn .not (B (clp (gv m den (mxV a)))) _
    simp only [e_not, nod_imm]
    exact end1 (fzI _)
  · simp only [e_lc1, Nat.zero_add, lv_cons, List.length_nil, Nat.reduceLeDiff, List.getD_cons_zero, nod_imm, true_and, Bool.not_true, Bool.false_and, e_not, e_gT, cond_false, j_one]
    exact end1 (fzI _)
theorem c77 (a : List Int) (den : Int) (H : Hp) (ha : Smp a) (hl : a.length ≤ 100000) (h5 : 1 ≤ den) (h6 : den ≤ 1000000) : Ret Try.prog 77 [ints a .no, I den] H (I (ldV a den)) H := by
  refine mk77 _ _ rfl (Nat.le_refl _) (.inl rfl) ?_
  simp only [vc77, real]
  simp only [nod_imm, nod_ints, nd_no, Try.underlying3, Jn, List.getD_cons_succ, List.getD_cons_zero, e_bx, okE_I, cl_imm, nod_ptr, true_and, hp_assoc, hp_cons, hp_nil, hp_len, hp_len_cons, hp_len_nil, Nat.zero_add, e_sc0, lv_cons, lv_nil, Nat.reduceLeDiff, e_sc1, e_len, e_eql, e_cond, decide_eq_true_eq, e_bxI, nod_cptr]
  unfold ldV
  by_cases h0 : a.length = 0
  · rw [if_pos h0, if_pos (by omega)]
    exact end1 (fzI _)
  · have hne : a ≠ [] := fun e => h0 (by rw [e]; rfl)
    rw [if_neg h0, if_neg (by omega)]
    refine call_of (c91 a _ hne (by omega)) ?_
    simp only [stV_imm, okE_I, cl_imm, spl_0, spl_n, true_and]
    refine call_of (c92 a _ hne (by omega)) ?_
    simp only [stV_imm, okE_I, cl_imm, spl_0, spl_n, true_and]
    refine call_of (c79 93 _ (ldP a den) _ fun m h3 h4 => c93 a den m H ha h3 h4 h5 h6) ?_
    exact end1A (fzI _)
theorem c53 (a : List Int) (den : Int) (H : Hp) (hl : a.length ≤ 1000000000) : Ret Try.prog 53 [ints a .no, I den] H
    (.tup [I (if waveE a = 0 ∧ 1 ≤ den ∧ den ≤ 1000000 then ldV a den else 0), I (if waveE a ≠ 0 then waveE a else if 1 ≤ den ∧ den ≤ 1000000 then 0 else 2)]) H := by
  refine mk53 _ _ rfl (Nat.le_refl _) (.inl rfl) ?_
  simp only [vc53, real]
  simp only [nod_ints, nd_no, nod_nod, Try.underlying25, Jn, nod_imm, Try.underlying3, e_gtr, List.getD_cons_succ, List.getD_cons_zero, e_lss, e_gF, j_or', j_one, e_cond]
  refine call_of (c73 a _ hl) ?_
  by_cases hw : waveE a = 0
  · have hA := waveE_zero hw
    by_cases hd : 1 ≤ den ∧ den ≤ 1000000
    · have d1 : (decide (den < 1) || decide (1000000 < den)) = false := by simp only [Bool.or_eq_false_iff, decide_eq_false_iff_not]; omega
      rw [if_pos ⟨hw, hd⟩, if_neg (by simp [hw]), if_pos hd]
      simp only [hw, nod_imm, d1, Bool.false_eq_true, if_false, e_neq, decide_true, Bool.not_true, e_cond]
      refine call_of (c77 a den _ hA.2 hA.1 hd.1 hd.2) ?_
      exact end2 rfl rfl (fzI _) (fzI _)
    · have d1 : (decide (den < 1) || decide (1000000 < den)) = true := by simp only [Bool.or_eq_true, Bool.and_eq_true, Bool.not_eq_true', Bool.or_eq_false_iff, Bool.and_eq_false_iff, decide_eq_false_iff_not, decide_eq_true_eq, Bool.not_eq_true]; omega
      rw [if_neg (fun h => hd h.2), if_neg (by simp [hw]), if_neg hd]
      simp only [hw, nod_imm, d1, if_true, e_neq, decide_true, Bool.not_true, e_cond, Bool.false_eq_true, if_false]
      exact end2 rfl rfl (fzI _) (fzI _)
  · rw [if_neg (fun h => hw h.1), if_pos hw]
    simp only [nod_imm, e_neq, hw, decide_false, Bool.not_false, e_cond, if_true]
    exact end2 rfl rfl (fzI _) (fzI _)
theorem clp_iff (x : Int) : clp x = false ↔ x = clipV x := by
  unfold clp clipV
  simp only [Bool.or_eq_false_iff, decide_eq_false_iff_not]
  omega
theorem gainC_zero {a : List Int} {num den : Int} : ∀ K : Nat, (∀ i, i < K → gv num den (a.getD i 0) = clipV (gv num den (a.getD i 0))) → gainC a num den K = 0
  | 0, _ => rfl
  | K + 1, h => by rw [gainC, if_pos (h K (by omega)), gainC_zero K (fun i hi => h i (by omega))]; rfl
theorem gainC_pos {a : List Int} {num den : Int} : ∀ K i : Nat, i < K → gv num den (a.getD i 0) ≠ clipV (gv num den (a.getD i 0)) → 0 < gainC a num den K
  | 0, i, h, _ => absurd h (Nat.not_lt_zero _)
  | K + 1, i, h, hne => by
    rw [gainC]
    by_cases hk : i < K
    · have := gainC_pos K i hk hne
      split <;> omega
    · have : i = K := by omega
      subst this
      rw [if_neg hne]
      have := (gainC_bd a num den i).1
      omega
theorem ld_spec {a : List Int} {den : Int} (ha : Smp a) (h5 : 1 ≤ den) (h6 : den ≤ 1000000) :
    0 ≤ ldV a den ∧ ldV a den ≤ 1000000 ∧ gainC a (ldV a den) den a.length = 0 ∧ (ldV a den = 1000000 ∨ 0 < gainC a (ldV a den + 1) den a.length) := by
  unfold ldV
  by_cases h0 : a.length = 0
  · rw [if_pos h0, h0]
    exact ⟨by decide, by decide, rfl, .inl rfl⟩
  · rw [if_neg h0]
    have g := grt_spec (ldP a den)
    generalize grt (ldP a den) = m at *
    refine ⟨g.1, g.2.1, ?_, ?_⟩
    · refine gainC_zero _ fun i hi => ?_
      have hi1 := mnS_le a (a.length - 1) i (by omega)
      have hi2 := mxS_ge a (a.length - 1) i (by omega)
      have m1 := gv_mono (num := m) (den := den) hi1 g.1 (by omega)
      have m2 := gv_mono (num := m) (den := den) hi2 g.1 (by omega)
      rcases g.2.2.1 with e | e
      · subst e
        rw [gv_zero (by omega)]
        rfl
      · unfold ldP at e
        simp only [Bool.and_eq_true, Bool.not_eq_true', clp_iff] at e
        unfold mnV mxV at e
        have c1 := clipV_bd (gv m den (mnS a (a.length - 1)))
        have c2 := clipV_bd (gv m den (mxS a (a.length - 1)))
        have e1 := e.1
        have e2 := e.2
        unfold clipV at *
        omega
    · rcases g.2.2.2 with e | e
      · exact .inl e
      · refine .inr ?_
        unfold ldP at e
        by_cases c1 : clp (gv (m + 1) den (mnV a)) = false
        · by_cases c2 : clp (gv (m + 1) den (mxV a)) = false
          · rw [c1, c2] at e; cases e
          · obtain ⟨i, hi, ei⟩ := mxS_mem a (a.length - 1)
            unfold mxV at c2
            rw [ei, clp_iff] at c2
            exact gainC_pos _ i (by omega) c2
        · obtain ⟨i, hi, ei⟩ := mnS_mem a (a.length - 1)
          unfold mnV at c1
          rw [ei, clp_iff] at c1
          exact gainC_pos _ i (by omega) c1
end Go.Proofs.Ytehjfjdknllmhaa
