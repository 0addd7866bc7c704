/- Contracts of join's functions, third part: lags, joins, chains. -/
import Derived.Test.YtehjfjdknllmhaaJF
set_option linter.unusedVariables false
set_option linter.unusedSimpArgs false
set_option linter.unnecessarySimpa false
set_option maxRecDepth 20000
set_option maxHeartbeats 2000000
namespace Go.Proofs.Ytehjfjdknllmhaa
open Go Go.Ab Go.Proofs
attribute [local congr] g_bin g_nilS g_nilP g_un g_ext g_bx g_fa g_ld g_st g_ix g_ixA g_slc g_mk g_bs g_bd g_nc g_cv g_len g_lenT g_app g_appB g_cpy g_mm g_call g_callG g_calm g_calmG g_range g_res g_pick g_cond g_loop g_Jv
theorem c61 (a : List Int) (H : Hp) (ha : a.length ≤ 1000000000) : Ret Try.prog 61 [ints a .no] H (ints a .no) H := by
  refine mk61 _ rfl (Nat.le_refl _) (.inl rfl) ?_
  simp only [vc61, real]
  simp only [nod_ints, nd_no, Try.underlying22, bs0, e_app0, e_nilE, nod_imm, e_cond, Bool.false_eq_true, if_false, if_true]
  have h1 : a.length * 8 ≤ 140737488355328 := by omega
  refine ⟨fun _ => ⟨h1, end_ints⟩, fun h => ⟨?_, h1, end_ints⟩⟩
  subst h; exact end_ints (l := []) (f := .full)

theorem c61o (a : List Int) (H : Hp) (ha : a.length ≤ 1000000000) : Ret Try.prog 61 [ints a .no] H (ints a .own) H := by
  show Ret Try.prog 61 [ints a .no] H (.arr (a.map I) .own) H
  refine mko61 _ (Nat.le_refl _) (.inl rfl) ?_
  simp only [vc61, real]
  simp only [nod_ints, nd_no, Try.underlying22, bs0, e_app0, e_nilE, nod_imm, e_cond, Bool.false_eq_true, if_false, if_true]
  have h1 : a.length * 8 ≤ 140737488355328 := by omega
  refine ⟨fun _ => ⟨h1, end_own⟩, fun h => ⟨?_, h1, end_own⟩⟩
  subst h; exact end_ownF (l := [])

/-! ### Lags -/
def lagA (a b : List Int) (n : Int) : Nat → Int
  | 0 => -1
  | k + 1 => if lagA a b n k < 0 ∨ mis a b n k < mis a b n (lagA a b n k) then k else lagA a b n k
def lagM (b : List Int) (n r : Int) : Nat := (min r ((b.length : Int) - n) + 1).toNat
def leastA (a b : List Int) (n : Int) (k : Nat) : Int := if lagA a b n k < 0 then 0 else mis a b n (lagA a b n k)
theorem lagA_lt (a b : List Int) (n : Int) : ∀ k : Nat, -1 ≤ lagA a b n k ∧ lagA a b n k < k
  | 0 => by simp [lagA]
  | k + 1 => by
    have := lagA_lt a b n k
    simp only [lagA]
    split <;> omega
theorem lagA_nn (a b : List Int) (n : Int) : ∀ k : Nat, 0 < k → 0 ≤ lagA a b n k
  | k + 1, _ => by
    simp only [lagA]
    split
    · omega
    · rename_i h; omega
theorem misS_mono {a b : List Int} (ha : Smp a) (hb : Smp b) (n k : Int) (i : Nat) : ∀ d : Nat, misS a b n k i ≤ misS a b n k (i + d)
  | 0 => Int.le_refl _
  | d + 1 => by
    have h1 := misS_mono ha hb n k i d
    have h2 := sqd_bound ha hb n k (i + d)
    have e : misS a b n k (i + (d + 1)) = misS a b n k (i + d) + sqd a b n k (i + d) := rfl
    omega
theorem mis_bound {a b : List Int} (ha : Smp a) (hb : Smp b) (n k : Int) (hn : n ≤ 1000000) : 0 ≤ mis a b n k ∧ mis a b n k ≤ 4294836225000000 := by
  have := misS_bound ha hb n k n.toNat
  unfold mis
  omega
theorem c62 (a b : List Int) (n r : Int) (H : Hp) (ha : Smp a) (hb : Smp b) (la : a.length ≤ 200000) (lb : b.length ≤ 200000) (hr : -1000000000 ≤ r) : Ret Try.prog 62 [ints a .no, ints b .no, I n, I r] H
    (.tup [I (if existsB a b n 0 = true then lagA a b n (lagM b n r) else 0), I (if existsB a b n 0 = true then leastA a b n (lagM b n r) else 0), B (existsB a b n 0)]) H := by
  refine mk62 _ _ _ _ rfl (Nat.le_refl _) (.inl rfl) ?_
  simp only [vc62, real]
  simp only [nod_ints, nd_no, nod_imm, Jn, List.getD_cons_zero, List.getD_cons_succ, nod_nod, Try.underlying3]
  refine call_of (c70 a b n 0 H (by omega)) ?_
  simp only [nod_imm, e_not, e_cond, Bool.not_eq_true']
  by_cases he : existsB a b n 0 = true
  · rw [if_neg (by simp [he]), if_pos he, if_pos he, he]
    have hx := existsB_iff.1 he
    refine loop_of (fun k : Nat => k ≤ lagM b n r) (fun k => [ints a .no, ints b .no, I n, I r, I (lagA a b n k), I (leastA a b n k), I k]) (fun _ => H) (fun k => lagM b n r - k) 0 (by omega) rfl rfl ?_
    intro k hk
    simp only [List.getD_cons_succ, List.getD_cons_zero, nod_ints, nd_no, nod_imm, e_len, e_sub, e_slcLo, e_min2, e_leq, e_cond, decide_eq_true_eq]
    have hM : (lagM b n r : Int) = max 0 (min r ((b.length : Int) - n) + 1) := by unfold lagM; omega
    refine ⟨(by unfold R64; omega), ?_⟩
    split
    · rename_i hlt
      have hk' : k < lagM b n r := by omega
      have b1 := lagA_lt a b n k
      have ln : (List.drop ((a.length : Int) - n).toNat a).length = n.toNat := by simp; omega
      refine ⟨(by unfold R64; omega), by omega, by omega, ?_⟩
      rw [ln]
      refine loop_of (fun i : Nat => (i : Int) ≤ n ∧ (0 < i → 0 ≤ lagA a b n k → misS a b n k i < leastA a b n k)) (fun i => [ints a .no, ints b .no, I n, I r, I (lagA a b n k), I (leastA a b n k), I k, I (misS a b n k i), ints (List.drop ((a.length : Int) - n).toNat a) .no, I n.toNat, I i]) (fun _ => H) (fun i => n.toNat - i) 0 ⟨by omega, by omega⟩ rfl rfl ?_
      intro i hi
      simp only [List.getD_cons_succ, List.getD_cons_zero, nod_imm, nod_ints, nd_no, e_add, e_geq, e_gT, e_ix, nod_cptr, e_ldc, ln, Int.toNat_natCast, drop_getD, e_sub, e_mul, j_and', j_one, true_and, e_cond, e_lss, decide_eq_true_eq]
      have g3 := sqd_bound ha hb n k i
      have g4 := misS_bound ha hb n k i
      have g5 := misS_bound ha hb n k (i + 1)
      have g6 : misS a b n k (i + 1) = misS a b n k i + sqd a b n k i := rfl
      have e : (a.getD ((a.length : Int) - n + i).toNat 0 - b.getD ((k : Int) + i).toNat 0) * (a.getD ((a.length : Int) - n + i).toNat 0 - b.getD ((k : Int) + i).toNat 0) = sqd a b n k i := rfl
      have e2 : ((a.length : Int) - n).toNat + i = ((a.length : Int) - n + i).toNat := by omega
      rw [e2, e]
      split
      · rename_i hin
        have g1 := ha ((a.length : Int) - n + i).toNat
        have g2 := hb ((k : Int) + i).toNat
        repeat (refine And.intro (by first | (unfold R64; omega) | omega | assumption | (intros; (try simp only [Bool.or_eq_true, Bool.and_eq_true, Bool.not_eq_true', Bool.or_eq_false_iff, Bool.and_eq_false_iff, decide_eq_false_iff_not, decide_eq_true_eq, Bool.not_eq_true, Bool.not_eq_false'] at *); (try unfold R64); omega)) ?_)
        split
        · rename_i hc
          simp only [Bool.and_eq_true, decide_eq_true_eq] at hc
          refine ⟨(by unfold R64; omega), k + 1, by omega, ?_, by omega⟩
          have hm := misS_mono ha hb n k (i + 1) (n.toNat - (i + 1))
          have em : i + 1 + (n.toNat - (i + 1)) = n.toNat := by omega
          rw [em] at hm
          have h0 : leastA a b n k = mis a b n (lagA a b n k) := by unfold leastA; rw [if_neg (by omega)]
          have h1 : lagA a b n (k + 1) = lagA a b n k := by
            simp only [lagA]
            rw [if_neg]
            have : mis a b n k = misS a b n k n.toNat := rfl
            omega
          have h2 : leastA a b n (k + 1) = leastA a b n k := by unfold leastA; rw [h1]
          rw [h1, h2]; rfl
        · rename_i hc
          simp only [Bool.and_eq_true, decide_eq_true_eq, not_and] at hc
          exact ⟨(by unfold R64; omega), i + 1, ⟨by omega, fun _ h0 => by have := hc h0; omega⟩, rfl, by omega⟩
      · rename_i hin
        have hin' : i = n.toNat := by omega
        subst hin'
        refine ⟨(by unfold R64; omega), k + 1, by omega, ?_, by omega⟩
        have h1 : lagA a b n (k + 1) = k := by
          simp only [lagA]
          rw [if_pos]
          by_cases h0 : lagA a b n k < 0
          · exact .inl h0
          · refine .inr ?_
            have := hi.2 (by omega) (by omega)
            unfold leastA at this
            rw [if_neg h0] at this
            exact this
        have h2 : leastA a b n (k + 1) = misS a b n k n.toNat := by unfold leastA; rw [h1, if_neg (by omega)]; rfl
        rw [h1, h2]; rfl
    · have : k = lagM b n r := by omega
      subst this
      exact end3 rfl rfl rfl (fzI _) (fzI _) (fzI _)
  · rw [if_pos (by simpa using he), if_neg he, if_neg he]
    have : existsB a b n 0 = false := by simpa using he
    rw [this]
    exact end3 rfl rfl rfl (fzI _) (fzI _) (fzI _)
def lagE (a b : List Int) (n r : Int) : Int := if wavesE [a, b] ≠ 0 then wavesE [a, b] else if n < 1 ∨ r < 0 then 2 else if existsB a b n 0 = true then 0 else 5
theorem c38 (a b : List Int) (n r : Int) (H : Hp) (la : a.length ≤ 1000000000) (lb : b.length ≤ 1000000000) : Ret Try.prog 38 [ints a .no, ints b .no, I n, I r] H
    (.tup [I (if lagE a b n r = 0 then lagA a b n (lagM b n r) else 0), I (if lagE a b n r = 0 then leastA a b n (lagM b n r) else 0), I (lagE a b n r)]) H := by
  refine mk38 _ _ _ _ rfl (Nat.le_refl _) (.inl rfl) ?_
  simp only [vc38, real]
  simp only [Jn, nod_ints, nd_no, bs2L, nod_lists, nd_full, nod_nod, Try.underlying25, List.getD_cons_succ, List.getD_cons_zero, nod_imm, Try.underlying3, e_lss, e_gF, j_or', j_one, e_cond]
  refine call_wk (c57 [a, b] H (by simp) (by simp; omega)) (.cons (.full _) .nil) ?_
  simp only [nod_imm, e_neq, e_cond, Bool.not_eq_true', decide_eq_false_iff_not]
  by_cases h0 : wavesE [a, b] = 0
  · rw [if_neg (by simp [h0])]
    by_cases h1 : n < 1 ∨ r < 0
    · rw [if_pos (by simp only [Bool.or_eq_true, Bool.and_eq_true, Bool.not_eq_true', Bool.or_eq_false_iff, Bool.and_eq_false_iff, decide_eq_false_iff_not, decide_eq_true_eq, Bool.not_eq_true]; omega)]
      have e : lagE a b n r = 2 := by unfold lagE; rw [if_neg (by simp [h0]), if_pos h1]
      rw [e, if_neg (by decide), if_neg (by decide)]
      exact end3 rfl rfl rfl (fzI _) (fzI _) (fzI _)
    · rw [if_neg (by simp only [Bool.or_eq_true, Bool.and_eq_true, Bool.not_eq_true', Bool.or_eq_false_iff, Bool.and_eq_false_iff, decide_eq_false_iff_not, decide_eq_true_eq, Bool.not_eq_true]; omega)]
      have hw := wavesE_zero h0
      have w1 := hw a (by simp)
      have w2 := hw b (by simp)
      refine call_of (c62 a b n r H w1.2 w2.2 (by omega) (by omega) (by omega)) ?_
      simp only [nod_tup, List.map_cons, nod2_imm, List.map_nil, e_x32, nod_imm, e_not, e_cond, Bool.not_eq_true', e_x31, e_x30]
      by_cases he : existsB a b n 0 = true
      · have e : lagE a b n r = 0 := by unfold lagE; rw [if_neg (by simp [h0]), if_neg h1, if_pos he]
        rw [if_neg (by simp [he]), if_pos he, if_pos he, e, if_pos rfl, if_pos rfl]
        exact end3 rfl rfl rfl (fzI _) (fzI _) (fzI _)
      · have e : lagE a b n r = 5 := by unfold lagE; rw [if_neg (by simp [h0]), if_neg h1, if_neg he]
        rw [if_pos (by simpa using he), e, if_neg (by decide), if_neg (by decide)]
        exact end3 rfl rfl rfl (fzI _) (fzI _) (fzI _)
  · rw [if_pos (by simp [h0])]
    have e : lagE a b n r = wavesE [a, b] := by unfold lagE; rw [if_pos h0]
    rw [e, if_neg h0, if_neg h0]
    exact end3 rfl rfl rfl (fzI _) (fzI _) (fzI _)
theorem c39 (a b : List Int) (n r : Int) (H : Hp) (ha : Smp a) (hb : Smp b) (la : a.length ≤ 200000) (lb : b.length ≤ 200000) (hr : -1000000000 ≤ r) : Ret Try.prog 39 [ints a .no, ints b .no, I n, I r] H
    (.tup [I (if existsB a b n 0 = true then lagA a b n (lagM b n r) else -1), B (existsB a b n 0 && decide (0 ≤ r))]) H := by
  refine mk39 _ _ _ _ rfl (Nat.le_refl _) (.inl rfl) ?_
  simp only [vc39, real]
  simp only [Jn, nod_nod, Try.underlying3, List.getD_cons_succ, List.getD_cons_zero]
  refine loop_of (fun k : Nat => k = 0 ∨ existsB a b n 0 = true ∧ k ≤ lagM b n r) (fun k => [ints a .no, ints b .no, I n, I r, I (lagA a b n k), I k]) (fun _ => H) (fun k => lagM b n r + 1 - k) 0 (.inl rfl) rfl rfl ?_
  intro k hk
  simp only [List.getD_cons_succ, List.getD_cons_zero, nod_imm, nod_ints, nd_no, e_add, e_lss, e_gF, e_geq, e_leq, e_gT]
  simp only [e_Jv]
  have hM : (lagM b n r : Int) = max 0 (min r ((b.length : Int) - n) + 1) := by unfold lagM; omega
  have b1 := lagA_lt a b n k
  have ex : existsB a b n k = true ↔ existsB a b n 0 = true ∧ (k : Int) ≤ b.length - n := by rw [existsB_iff, existsB_iff]; omega
  have fin : ¬ ((k : Int) ≤ r ∧ existsB a b n k = true) → retF (.tup [I (if existsB a b n 0 = true then lagA a b n (lagM b n r) else -1), B (existsB a b n 0 && decide (0 ≤ r))]) H [I (lagA a b n k), B (decide (0 ≤ lagA a b n k))] H := by
    intro hno
    rw [ex] at hno
    by_cases he : existsB a b n 0 = true
    · have hx := existsB_iff.1 he
      have hno' : ¬ ((k : Int) ≤ r ∧ (k : Int) ≤ b.length - n) := fun h => hno ⟨h.1, he, h.2⟩
      have hkM : k = lagM b n r := by omega
      subst hkM
      rw [if_pos he, he]
      have : decide (0 ≤ lagA a b n (lagM b n r)) = (true && decide (0 ≤ r)) := by
        simp only [Bool.true_and, decide_eq_decide]
        constructor
        · intro h; omega
        · intro h; exact lagA_nn a b n _ (by omega)
      rw [this]
      exact end2 rfl rfl (fzI _) (fzI _)
    · have hk0 : k = 0 := hk.resolve_right (fun h => he h.1)
      subst hk0
      have : existsB a b n 0 = false := by simpa using he
      rw [if_neg he, this]
      exact end2 rfl rfl (fzI _) (fzI _)
  by_cases hkr : (k : Int) ≤ r
  · simp only [hkr, decide_true, cond_true]
    refine call_of (c45 a b n k H (by omega)) ?_
    simp only [nod_imm, true_and, e_cond, if_true, nod_nod, j_tl, decide_eq_true_eq]
    by_cases he : existsB a b n k = true
    · rw [if_pos he]
      have hx := existsB_iff.1 he
      have he0 := (ex.1 he).1
      have hkM : k < lagM b n r := by omega
      by_cases h0 : lagA a b n k < 0
      · simp only [h0, decide_true, cond_true]
        try simp only [true_implies]
        refine ⟨(by unfold R64; omega), k + 1, .inr ⟨he0, by omega⟩, ?_, by omega⟩
        have h1 : lagA a b n (k + 1) = k := by simp only [lagA]; rw [if_pos (.inl h0)]
        rw [h1]; rfl
      · simp only [h0, decide_false, cond_false, false_implies, true_and]
        refine call_of (c40 a b n k H ha hb (by omega) (by omega) he) ?_
        refine call_of (c40 a b n (lagA a b n k) H ha hb (by omega) (by omega) (existsB_iff.2 (by omega))) ?_
        simp only [nod_imm, true_and, e_lss, e_cond, decide_eq_true_eq]
        split
        · rename_i hlt
          refine ⟨(by unfold R64; omega), k + 1, .inr ⟨he0, by omega⟩, ?_, by omega⟩
          have h1 : lagA a b n (k + 1) = k := by simp only [lagA]; rw [if_pos (.inr hlt)]
          rw [h1]; rfl
        · rename_i hlt
          refine ⟨(by unfold R64; omega), k + 1, .inr ⟨he0, by omega⟩, ?_, by omega⟩
          have h1 : lagA a b n (k + 1) = lagA a b n k := by simp only [lagA]; rw [if_neg (by omega)]
          rw [h1]; rfl
    · rw [if_neg he]
      exact fin (fun h => he h.2)
  · simp only [hkr, decide_false, cond_false]
    simp only [nod_imm, true_and, e_cond, if_true, nod_nod, j_tl, decide_eq_true_eq, Bool.false_eq_true, if_false]
    exact fin (fun h => hkr h.1)

/-! ### Joins -/
def joinL (a b : List Int) (n k : Int) : List Int := a.take ((a.length : Int) - n).toNat ++ (fadeL (a.drop ((a.length : Int) - n).toNat) ((b.take (k + n).toNat).drop k.toNat) ++ b.drop (k + n).toNat)
theorem fadeL_length (x y : List Int) : (fadeL x y).length = x.length := by simp [fadeL]
theorem joinL_length {a b : List Int} {n k : Int} (he : existsB a b n k = true) : ((joinL a b n k).length : Int) = a.length + b.length - n - k := by
  have hx := existsB_iff.1 he
  unfold joinL
  simp [fadeL_length]
  omega
theorem c58' (x y : List Int) (H : Hp) (hl : x.length = y.length) (hn : x.length ≤ 200000) (hx : Smp x) (hy : Smp y) : Ret Try.prog 58 [ints x .no, ints y .no] H (ints (fadeL x y) .no) H := c58 x y H hl hn hx.mem hy.mem
theorem c63 (a b : List Int) (n k : Int) (H : Hp) (ha : Smp a) (hb : Smp b) (la : a.length ≤ 200000) (lb : b.length ≤ 200000) (he : existsB a b n k = true) : Ret Try.prog 63 [ints a .no, ints b .no, I n, I k] H
    (.tup [ints (if (joinL a b n k).length ≤ 100000 then joinL a b n k else []) .no, B (decide ((joinL a b n k).length ≤ 100000))]) H := by
  have hx := existsB_iff.1 he
  have hl := joinL_length he
  refine mk63 _ _ _ _ rfl (Nat.le_refl _) (.inl rfl) ?_
  simp only [vc63, real]
  simp only [Jn, nod_ints, nd_no, Try.underlying3, nod_imm, List.getD_cons_succ, List.getD_cons_zero, nod_nod, e_add, e_slcLo, e_slcLH, e_len, e_sub, e_mk, nod_sl, cl_imm, rep_fl, e_slSLHH, e_slSHH, e_cI0, Nat.zero_add, e_gtr, e_cond, decide_eq_true_eq]
  refine ⟨(by unfold R64; omega), (by unfold R64; omega), (by unfold R64; omega), ?_⟩
  split
  · rw [if_neg (by omega)]
    have : decide ((joinL a b n k).length ≤ 100000) = false := by simp; omega
    rw [this]
    exact end2 rfl rfl fz0 (fzI _)
  · rw [if_pos (by omega)]
    have : decide ((joinL a b n k).length ≤ 100000) = true := by simp; omega
    rw [this]
    obtain ⟨n, rfl⟩ := Int.eq_ofNat_of_zero_le (show 0 ≤ n by omega)
    obtain ⟨k, rfl⟩ := Int.eq_ofNat_of_zero_le (show 0 ≤ k by omega)
    obtain ⟨s, hs⟩ : ∃ s : Nat, a.length = s + n := ⟨a.length - n, by omega⟩
    obtain ⟨t, ht⟩ : ∃ t : Nat, b.length = k + n + t := ⟨b.length - (k + n), by omega⟩
    have e1 : (a.length : Int) - n = (s : Nat) := by omega
    have e2 : (a.length : Int) + b.length - n - k = ((s + n + t : Nat) : Int) := by omega
    have e3 : (s : Int) + n = ((s + n : Nat) : Int) := by omega
    have e4 : (k : Int) + n = ((k + n : Nat) : Int) := by omega
    have e5 : List.replicate (s + n + t) (0 : Int) = List.replicate s 0 ++ (List.replicate n 0 ++ List.replicate t 0) := by simp; omega
    unfold joinL
    simp only [e2, e1, Int.toNat_natCast, e3, e4]
    repeat (refine And.intro (by first | (unfold R64; omega) | omega | assumption | (intros; (try simp only [Bool.or_eq_true, Bool.and_eq_true, Bool.not_eq_true', Bool.or_eq_false_iff, Bool.and_eq_false_iff, decide_eq_false_iff_not, decide_eq_true_eq, Bool.not_eq_true, Bool.not_eq_false'] at *); (try unfold R64); omega)) ?_)
    have m1 : min a.length s = s := by omega
    have m2 : (a.take s).length = s := by simp; omega
    have m3 : splI (List.replicate s 0 ++ (List.replicate n 0 ++ List.replicate t 0)) 0 (a.take s) = a.take s ++ (List.replicate n 0 ++ List.replicate t 0) := by
      have := splI_app [] (List.replicate s (0 : Int) ++ (List.replicate n 0 ++ List.replicate t 0)) (a.take s)
      simp only [List.nil_append, List.length_nil] at this
      rw [this, m2]
      congr 1
      simp
    have l1 : (List.drop s a).length = n := by simp; omega
    have l2 : (List.drop k (List.take (k + n) b)).length = n := by simp; omega
    have l3 : (List.drop (k + n) b).length = t := by simp; omega
    have l4 : (fadeL (List.drop s a) (List.drop k (List.take (k + n) b))).length = n := by rw [fadeL_length, l1]
    have o1 : offS 0 s (s + n) 1 = s := by unfold offS; rw [if_neg (by omega)]; omega
    rw [e5, m1, m3]
    refine And.intro (by simp) ?_
    repeat (refine And.intro (by first | (unfold R64; omega) | omega | assumption | (intros; (try simp only [Bool.or_eq_true, Bool.and_eq_true, Bool.not_eq_true', Bool.or_eq_false_iff, Bool.and_eq_false_iff, decide_eq_false_iff_not, decide_eq_true_eq, Bool.not_eq_true, Bool.not_eq_false'] at *); (try unfold R64); omega)) ?_)
    refine call_of (c58' _ _ _ (by rw [l1, l2]) (by omega) (ha.drop s) ((hb.take (k + n)).drop k)) ?_
    have n1 : s + n - s = n := by omega
    have n2 : s + n + t - (s + n) = t := by omega
    rw [o1, n1, n2]
    simp only [nod_ints, nd_no, e_cI0]
    generalize hF : fadeL (List.drop s a) (List.drop k (List.take (k + n) b)) = F at l4 ⊢
    have tk : List.take n F = F := List.take_of_length_le (by omega)
    have tk2 : List.take t (List.drop (k + n) b) = List.drop (k + n) b := List.take_of_length_le (by omega)
    rw [l4, Nat.min_self, tk]
    have m4 := splI_app (a.take s) (List.replicate n 0 ++ List.replicate t 0) F
    rw [m2, l4] at m4
    rw [m4]
    refine And.intro (by simp; omega) ?_
    repeat (refine And.intro (by first | (unfold R64; omega) | omega | assumption | (intros; (try simp only [Bool.or_eq_true, Bool.and_eq_true, Bool.not_eq_true', Bool.or_eq_false_iff, Bool.and_eq_false_iff, decide_eq_false_iff_not, decide_eq_true_eq, Bool.not_eq_true, Bool.not_eq_false'] at *); (try unfold R64); omega)) ?_)
    rw [l3, Nat.min_self, tk2]
    have hd : List.drop n (List.replicate n (0 : Int) ++ List.replicate t 0) = List.replicate t 0 := by simp
    rw [hd]
    have m5 : splI (a.take s ++ (F ++ List.replicate t 0)) (offS 0 (s + n) (s + n + t) 1) (List.drop (k + n) b) = a.take s ++ (F ++ List.drop (k + n) b) := by
      by_cases ht0 : t = 0
      · subst ht0
        have : List.drop (k + n) b = [] := List.length_eq_zero_iff.1 l3
        rw [this, splI_nil]; rfl
      · have o2 : offS 0 (s + n) (s + n + t) 1 = s + n := by unfold offS; rw [if_neg (by omega)]; omega
        have := splI_app (a.take s ++ F) (List.replicate t 0) (List.drop (k + n) b)
        rw [List.length_append, m2, l4, List.append_assoc] at this
        rw [o2, this, l3]
        simp
    rw [m5]
    refine And.intro (by unfold offS; split <;> simp <;> omega) ?_
    refine end2A rfl rfl (fz_ints (Nat.le_refl _) (by rw [tail0]; rfl) (by simp; omega)) (fzI _)
end Go.Proofs.Ytehjfjdknllmhaa
