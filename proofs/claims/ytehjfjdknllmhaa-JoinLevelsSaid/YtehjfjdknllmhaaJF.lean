/- Contracts of join's functions, second part: fades, mismatches, joins, chains, and what the references give. -/
import Derived.Test.YtehjfjdknllmhaaJA
set_option linter.unusedVariables false
set_option linter.unusedSimpArgs false
set_option linter.unnecessarySimpa false
set_option maxRecDepth 20000
set_option maxHeartbeats 2000000
namespace Go.Proofs.Ytehjfjdknllmhaa
open Go Go.Ab Go.Proofs
attribute [local congr] g_bin g_nilS g_nilP g_un g_ext g_bx g_fa g_ld g_st g_ix g_ixA g_slc g_mk g_bs g_bd g_nc g_cv g_len g_lenT g_app g_appB g_cpy g_mm g_call g_callG g_calm g_calmG g_range g_res g_pick g_cond g_loop g_Jv
theorem fzI {n : Nat} {H : Hp} (x : Value) : Fz n H (.imm x) (.imm x) := .keep _ (.imm x)
theorem fzA {n : Nat} {H : Hp} (l : List Int) (f : Fl) : Fz n H (ints l f).nod (ints l .no) := by rw [nod_ints]; exact end_any
theorem fzL {n : Nat} {H : Hp} (l : List (List Int)) (f : Fl) : Fz n H (lists l f).nod (lists l .no) := by rw [nod_lists]; exact end_anyL
theorem fz0 {n : Nat} {H : Hp} : Fz n H (V.arr [] .full).nod (ints [] .no) := fzA [] .full
theorem end2 {H : Hp} {a b a' b' : V} (d1 : a'.Nd) (d2 : b'.Nd) (h1 : Fz H.length H a.nod a') (h2 : Fz H.length H b.nod b') : retF (.tup [a', b']) H [a, b] H := by
  refine ⟨.tup _ _ rfl (fun c hc => ?_) (fun i c c' h1' h2' => ?_), by simp⟩
  · simp at hc; rcases hc with rfl | rfl <;> assumption
  · match i with
    | 0 => simp at h1' h2'; subst h1' h2'; exact h1
    | 1 => simp at h1' h2'; subst h1' h2'; exact h2
    | i + 2 => simp at h2'
theorem end3 {H : Hp} {a b c a' b' c' : V} (d1 : a'.Nd) (d2 : b'.Nd) (d3 : c'.Nd) (h1 : Fz H.length H a.nod a') (h2 : Fz H.length H b.nod b') (h3 : Fz H.length H c.nod c') : retF (.tup [a', b', c']) H [a, b, c] H := by
  refine ⟨.tup _ _ rfl (fun c hc => ?_) (fun i c c' h1' h2' => ?_), by simp⟩
  · simp at hc; rcases hc with rfl | rfl | rfl <;> assumption
  · match i with
    | 0 => simp at h1' h2'; subst h1' h2'; exact h1
    | 1 => simp at h1' h2'; subst h1' h2'; exact h2
    | 2 => simp at h1' h2'; subst h1' h2'; exact h3
    | i + 3 => simp at h2'
theorem end2A {H : Hp} {a b a' b' : V} {L : List Blk} (d1 : a'.Nd) (d2 : b'.Nd) (h1 : Fz H.length (H ++ L) a.nod a') (h2 : Fz H.length (H ++ L) b.nod b') : retF (.tup [a', b']) H [a, b] (H ++ L) := by
  refine ⟨.tup _ _ rfl (fun c hc => ?_) (fun i c c' h1' h2' => ?_), by simp⟩
  · simp at hc; rcases hc with rfl | rfl <;> assumption
  · match i with
    | 0 => simp at h1' h2'; subst h1' h2'; exact h1
    | 1 => simp at h1' h2'; subst h1' h2'; exact h2
    | i + 2 => simp at h2'

/-! ### Waves -/
def Smp (l : List Int) : Prop := ∀ i : Nat, -32768 ≤ l.getD i 0 ∧ l.getD i 0 ≤ 32767
theorem okS_smp {l : List Int} (h : okS l = true) : ∀ v, v ∈ l → -32768 ≤ v ∧ v ≤ 32767 := fun v hv => by
  unfold okS at h
  rw [List.all_eq_true] at h
  have := h v hv
  simpa [okx] using this
theorem smp_of {l : List Int} (h : ∀ v, v ∈ l → -32768 ≤ v ∧ v ≤ 32767) : Smp l := fun i => by
  by_cases hi : i < l.length
  · exact h _ (hMem l hi)
  · rw [List.getD_eq_getElem?_getD, List.getElem?_eq_none (by omega)]; simp
theorem okS_Smp {l : List Int} (h : okS l = true) : Smp l := smp_of (okS_smp h)
theorem Smp.mem {l : List Int} (h : Smp l) : ∀ v, v ∈ l → -32768 ≤ v ∧ v ≤ 32767 := fun v hv => by
  obtain ⟨i, hi⟩ := List.mem_iff_getElem?.1 hv
  have := h i
  rw [List.getD_eq_getElem?_getD, hi] at this
  exact this
theorem Smp.ok {l : List Int} (h : Smp l) : okS l = true := by
  unfold okS
  rw [List.all_eq_true]
  intro v hv
  have := h.mem v hv
  simp [okx, this]
theorem Smp.drop {l : List Int} (h : Smp l) (k : Nat) : Smp (l.drop k) := smp_of fun v hv => h.mem v (List.mem_of_mem_drop hv)
theorem Smp.take {l : List Int} (h : Smp l) (k : Nat) : Smp (l.take k) := smp_of fun v hv => h.mem v (List.mem_of_mem_take hv)
theorem waveE_zero {l : List Int} (h : waveE l = 0) : l.length ≤ 100000 ∧ Smp l := by
  unfold waveE at h
  split at h
  · cases h
  · split at h
    · rename_i h1 h2; exact ⟨by omega, okS_Smp h2⟩
    · cases h
theorem waveE_of {l : List Int} (h1 : l.length ≤ 100000) (h2 : Smp l) : waveE l = 0 := by
  unfold waveE
  rw [if_neg (by omega), if_pos h2.ok]
theorem wavesE_zero {l : List (List Int)} (h : wavesE l = 0) : ∀ x, x ∈ l → x.length ≤ 100000 ∧ Smp x := by
  unfold wavesE at h
  split at h
  · cases h
  · split at h
    · cases h
    · rename_i h1 h2
      intro x hx
      have := fun h' => h2 (List.any_eq_true.2 ⟨x, hx, h'⟩)
      simp only [Bool.not_eq_true', decide_eq_false_iff_not, Decidable.not_not] at this
      exact waveE_zero (Decidable.not_not.1 this)
theorem wavesE_of {l : List (List Int)} (h : ∀ x, x ∈ l → x.length ≤ 100000 ∧ Smp x) : wavesE l = 0 := by
  unfold wavesE
  rw [if_neg, if_neg]
  · simp only [List.any_eq_true, not_exists, not_and, Bool.not_eq_true', decide_eq_false_iff_not, Decidable.not_not]
    exact fun x hx => waveE_of (h x hx).1 (h x hx).2
  · simp only [List.any_eq_true, not_exists, not_and, decide_eq_true_eq]
    exact fun x hx => by have := (h x hx).1; omega

/-! ### Fades -/
def fadeL (x y : List Int) : List Int := (List.range x.length).map (fadeV x y x.length)
def fadeE (x y : List Int) : Int := if wavesE [x, y] ≠ 0 then wavesE [x, y] else if x.length ≠ y.length ∨ x.length = 0 then 2 else 0
def fadeR (x y : List Int) : List Int := if fadeE x y = 0 then fadeL x y else []
theorem c19 (a b : List Int) (H : Hp) (ha : a.length ≤ 1000000000) (hb : b.length ≤ 1000000000) : Ret Try.prog 19 [ints a .no, ints b .no] H (.tup [ints (fadeR a b) .no, I (fadeE a b)]) H := by
  refine mk19 _ _ rfl (Nat.le_refl _) (.inl rfl) ?_
  simp only [vc19, real]
  simp only [Jn, nod_ints, nd_no, bs2L, nod_lists, nd_full, nod_nod, Try.underlying25, List.getD_cons_zero, List.getD_cons_succ, Try.underlying3, e_len, nod_imm, e_eql, e_neq, e_gF, j_or', j_one, e_cond]
  refine call_wk (c57 [a, b] H (by simp) (by simp; omega)) (.cons (.full _) .nil) ?_
  simp only [nod_imm, e_neq, e_cond, Bool.not_eq_true', decide_eq_false_iff_not]
  by_cases h0 : wavesE [a, b] = 0
  · rw [if_neg (by simp [h0])]
    by_cases h1 : a.length ≠ b.length ∨ a.length = 0
    · rw [if_pos (by simp only [Bool.or_eq_true, Bool.and_eq_true, Bool.not_eq_true', Bool.or_eq_false_iff, Bool.and_eq_false_iff, decide_eq_false_iff_not, decide_eq_true_eq, Bool.not_eq_true]; omega)]
      have e : fadeE a b = 2 := by unfold fadeE; rw [if_neg (by simp [h0]), if_pos h1]
      unfold fadeR
      rw [e, if_neg (by decide)]
      exact end2 rfl rfl fz0 (fzI _)
    · rw [if_neg (by simp only [Bool.or_eq_true, Bool.and_eq_true, Bool.not_eq_true', Bool.or_eq_false_iff, Bool.and_eq_false_iff, decide_eq_false_iff_not, decide_eq_true_eq, Bool.not_eq_true]; omega)]
      have e : fadeE a b = 0 := by unfold fadeE; rw [if_neg (by simp [h0]), if_neg h1]
      unfold fadeR
      rw [e, if_pos rfl]
      have hw := wavesE_zero h0
      have w1 := hw a (by simp)
      have w2 := hw b (by simp)
      refine call_of (c58 a b H (by omega) (by omega) w1.2.mem w2.2.mem) ?_
      exact end2 rfl rfl (fzA _ _) (fzI _)
  · rw [if_pos (by simp [h0])]
    have e : fadeE a b = wavesE [a, b] := by unfold fadeE; rw [if_pos h0]
    unfold fadeR
    rw [e, if_neg h0]
    exact end2 rfl rfl fz0 (fzI _)
theorem c22 (a b : List Int) (H : Hp) (hl : a.length = b.length) (hn : a.length ≤ 200000) (ha : Smp a) (hb : Smp b) : Ret Try.prog 22 [ints a .no, ints b .no] H (ints (fadeL a b) .no) H := by
  refine mk22 _ _ rfl (Nat.le_refl _) (.inl rfl) ?_
  simp only [vc22, real]
  simp only [nod_ints, nd_no, nod_nod, Try.underlying3, Jn, List.getD_cons_succ, List.getD_cons_zero, e_len]
  refine loop_of (fun i : Nat => i ≤ a.length) (fun i => [ints a .no, ints b .no, I a.length, ints ((List.range i).map (fadeV a b a.length)) (oF i), I i]) (fun _ => H) (fun i => a.length - i) 0 (Nat.zero_le _) rfl rfl ?_
  intro i hi
  simp only [List.getD_cons_succ, List.getD_cons_zero, nod_imm, nod_ints, nd_no, e_add, e_ix, Int.toNat_natCast, nod_cptr, e_ldc, e_mul, e_sub, e_lss, e_cond, decide_eq_true_eq]
  split
  · rename_i hlt
    have hlt' : i < a.length := by omega
    have gx := ha i
    have gy := hb i
    have m1 := abs_mul_le (a := (a.length : Int) - i) (b := a.getD i 0) (A := 200000) (B := 32768) (by omega) (by omega) (by omega) (by omega)
    have m2 := abs_mul_le (a := (i : Int) + 1) (b := b.getD i 0) (A := 200001) (B := 32768) (by omega) (by omega) (by omega) (by omega)
    repeat (refine And.intro (by first | (unfold R64; omega) | omega | assumption | (intros; (try simp only [Bool.or_eq_true, Bool.and_eq_true, Bool.not_eq_true', Bool.or_eq_false_iff, Bool.and_eq_false_iff, decide_eq_false_iff_not, decide_eq_true_eq, Bool.not_eq_true, Bool.not_eq_false'] at *); (try unfold R64); omega)) ?_)
    refine call_of (c59 _ _ (by omega) (by omega) (by omega) (by omega) _) ?_
    simp only [nod_imm, true_and, bs1, nod_ints, nd_full, e_app, oF_ap, List.length_map]
    refine ⟨by simp; omega, (by unfold R64; omega), i + 1, by omega, ?_, by omega⟩
    rw [List.range_succ, List.map_append]
    rfl
  · have : i = a.length := by omega
    subst this
    exact end_ints

/-! ### Mismatches -/
def sqd (a b : List Int) (n k : Int) (j : Nat) : Int := (a.getD ((a.length : Int) - n + j).toNat 0 - b.getD (k + j).toNat 0) * (a.getD ((a.length : Int) - n + j).toNat 0 - b.getD (k + j).toNat 0)
def misS (a b : List Int) (n k : Int) : Nat → Int
  | 0 => 0
  | i + 1 => misS a b n k i + sqd a b n k i
def mis (a b : List Int) (n k : Int) : Int := misS a b n k n.toNat
theorem sqn (x : Int) : 0 ≤ x * x := by
  rcases Int.le_total 0 x with h | h
  · exact Int.mul_nonneg h h
  · have := Int.mul_nonneg (a := -x) (b := -x) (by omega) (by omega)
    rwa [Int.neg_mul_neg] at this
theorem sqd_bound {a b : List Int} (ha : Smp a) (hb : Smp b) (n k : Int) (j : Nat) : 0 ≤ sqd a b n k j ∧ sqd a b n k j ≤ 4294836225 := by
  unfold sqd
  have h1 := ha ((a.length : Int) - n + j).toNat
  have h2 := hb (k + j).toNat
  generalize a.getD _ 0 = x at *
  generalize b.getD _ 0 = y at *
  have := abs_mul_le (a := x - y) (b := x - y) (A := 65535) (B := 65535) (by omega) (by omega) (by omega) (by omega)
  have h3 : 0 ≤ (x - y) * (x - y) := sqn _
  omega
theorem misS_bound {a b : List Int} (ha : Smp a) (hb : Smp b) (n k : Int) : ∀ i : Nat, 0 ≤ misS a b n k i ∧ misS a b n k i ≤ 4294836225 * i
  | 0 => by simp [misS]
  | i + 1 => by
    have h1 := misS_bound ha hb n k i
    have h2 := sqd_bound ha hb n k i
    simp only [misS]
    omega
theorem existsB_iff {a b : List Int} {n k : Int} : existsB a b n k = true ↔ 1 ≤ n ∧ n ≤ a.length ∧ n ≤ b.length ∧ 0 ≤ k ∧ k ≤ b.length - n := by
  unfold existsB
  simp only [Bool.and_eq_true, decide_eq_true_eq, and_assoc]
theorem c40 (a b : List Int) (n k : Int) (H : Hp) (ha : Smp a) (hb : Smp b) (la : a.length ≤ 1000000) (lb : b.length ≤ 1000000) (he : existsB a b n k = true) : Ret Try.prog 40 [ints a .no, ints b .no, I n, I k] H (I (mis a b n k)) H := by
  have hx := existsB_iff.1 he
  refine mk40 _ _ _ _ rfl (Nat.le_refl _) (.inl rfl) ?_
  simp only [vc40, real]
  simp only [nod_nod, Try.underlying3, Jn, List.getD_cons_succ, List.getD_cons_zero]
  refine loop_of (fun i : Nat => (i : Int) ≤ n) (fun i => [ints a .no, ints b .no, I n, I k, I (misS a b n k i), I i]) (fun _ => H) (fun i => n.toNat - i) 0 (by omega) rfl rfl ?_
  intro i hi
  simp only [List.getD_cons_succ, List.getD_cons_zero, nod_imm, nod_ints, nd_no, e_add, e_ix, nod_cptr, e_ldc, e_len, e_sub, true_and, e_mul, e_lss, e_cond, decide_eq_true_eq]
  split
  · rename_i hlt
    have g1 := ha ((a.length : Int) - n + i).toNat
    have g2 := hb (k + i).toNat
    have g3 := sqd_bound ha hb n k i
    have g4 := misS_bound ha hb n k i
    have g5 := misS_bound ha hb n k (i + 1)
    have e : (a.getD ((a.length : Int) - n + i).toNat 0 - b.getD (k + i).toNat 0) * (a.getD ((a.length : Int) - n + i).toNat 0 - b.getD (k + i).toNat 0) = sqd a b n k i := rfl
    rw [e]
    repeat (refine And.intro (by first | (unfold R64; omega) | omega | assumption | (intros; (try simp only [Bool.or_eq_true, Bool.and_eq_true, Bool.not_eq_true', Bool.or_eq_false_iff, Bool.and_eq_false_iff, decide_eq_false_iff_not, decide_eq_true_eq, Bool.not_eq_true, Bool.not_eq_false'] at *); (try unfold R64); omega)) ?_)
    exact ⟨i + 1, by omega, rfl, by omega⟩
  · have : i = n.toNat := by omega
    subst this
    exact end_keep (.imm _) rfl
def misE (a b : List Int) (n k : Int) : Int := if wavesE [a, b] ≠ 0 then wavesE [a, b] else if existsB a b n k = true then 0 else 2
def misR (a b : List Int) (n k : Int) : Int := if misE a b n k = 0 then mis a b n k else 0
theorem drop_getD (a : List Int) (k i : Nat) : (a.drop k).getD i 0 = a.getD (k + i) 0 := by simp [List.getD_eq_getElem?_getD]
theorem c41 (a b : List Int) (n k : Int) (H : Hp) (la : a.length ≤ 1000000000) (lb : b.length ≤ 1000000000) : Ret Try.prog 41 [ints a .no, ints b .no, I n, I k] H (.tup [I (misR a b n k), I (misE a b n k)]) H := by
  refine mk41 _ _ _ _ rfl (Nat.le_refl _) (.inl rfl) ?_
  simp only [vc41, real]
  simp only [Jn, nod_ints, nd_no, bs2L, nod_lists, nd_full, nod_nod, Try.underlying25, List.getD_cons_zero, List.getD_cons_succ, nod_imm, Try.underlying3, e_len, e_sub, e_slcLo]
  refine call_wk (c57 [a, b] H (by simp) (by simp; omega)) (.cons (.full _) .nil) ?_
  simp only [nod_imm, e_neq, e_cond, Bool.not_eq_true', decide_eq_false_iff_not]
  by_cases h0 : wavesE [a, b] = 0
  · rw [if_neg (by simp [h0])]
    refine call_of (c70 a b n k H lb) ?_
    simp only [nod_imm, e_not, e_cond, Bool.not_eq_true']
    by_cases h1 : existsB a b n k = true
    · rw [if_neg (by simp [h1])]
      have e : misE a b n k = 0 := by unfold misE; rw [if_neg (by simp [h0]), if_pos h1]
      unfold misR
      rw [e, if_pos rfl]
      have hx := existsB_iff.1 h1
      have hw := wavesE_zero h0
      have w1 := hw a (by simp)
      have w2 := hw b (by simp)
      have ln : (List.drop ((a.length : Int) - n).toNat a).length = n.toNat := by simp; omega
      refine ⟨(by unfold R64; omega), by omega, by omega, ?_⟩
      rw [ln]
      refine loop_of (fun i : Nat => (i : Int) ≤ n) (fun i => [ints b .no, I k, I (misS a b n k i), ints (List.drop ((a.length : Int) - n).toNat a) .no, I n.toNat, I i]) (fun _ => H) (fun i => n.toNat - i) 0 (by omega) rfl rfl ?_
      intro i hi
      simp only [List.getD_cons_succ, List.getD_cons_zero, nod_imm, nod_ints, nd_no, e_add, e_ix, nod_cptr, e_ldc, ln, Int.toNat_natCast, drop_getD, true_and, e_sub, e_mul, e_lss, e_cond, decide_eq_true_eq]
      split
      · rename_i hlt
        have g1 := w1.2 ((a.length : Int) - n + i).toNat
        have g2 := w2.2 (k + i).toNat
        have g3 := sqd_bound w1.2 w2.2 n k i
        have g4 := misS_bound w1.2 w2.2 n k i
        have g5 := misS_bound w1.2 w2.2 n k (i + 1)
        have e : (a.getD ((a.length : Int) - n + i).toNat 0 - b.getD (k + i).toNat 0) * (a.getD ((a.length : Int) - n + i).toNat 0 - b.getD (k + i).toNat 0) = sqd a b n k i := rfl
        have e2 : ((a.length : Int) - n).toNat + i = ((a.length : Int) - n + i).toNat := by omega
        rw [e2, e]
        repeat (refine And.intro (by first | (unfold R64; omega) | omega | assumption | (intros; (try simp only [Bool.or_eq_true, Bool.and_eq_true, Bool.not_eq_true', Bool.or_eq_false_iff, Bool.and_eq_false_iff, decide_eq_false_iff_not, decide_eq_true_eq, Bool.not_eq_true, Bool.not_eq_false'] at *); (try unfold R64); omega)) ?_)
        exact ⟨i + 1, by omega, rfl, by omega⟩
      · have : i = n.toNat := by omega
        subst this
        exact end2 rfl rfl (fzI _) (fzI _)
    · rw [if_pos (by simpa using h1)]
      have e : misE a b n k = 2 := by unfold misE; rw [if_neg (by simp [h0]), if_neg h1]
      unfold misR
      rw [e, if_neg (by decide)]
      exact end2 rfl rfl (fzI _) (fzI _)
  · rw [if_pos (by simp [h0])]
    have e : misE a b n k = wavesE [a, b] := by unfold misE; rw [if_pos h0]
    unfold misR
    rw [e, if_neg h0]
    exact end2 rfl rfl (fzI _) (fzI _)
end Go.Proofs.Ytehjfjdknllmhaa
