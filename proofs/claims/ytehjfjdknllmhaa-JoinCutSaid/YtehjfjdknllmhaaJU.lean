/- Joining a wave that was cut. -/
import Derived.Test.YtehjfjdknllmhaaJS
set_option linter.unusedVariables false
set_option linter.unusedSimpArgs false
set_option linter.unnecessarySimpa false
set_option maxRecDepth 20000
set_option maxHeartbeats 2000000
namespace Go.Proofs.Ytehjfjdknllmhaa
open Go Go.Ab Go.Proofs
attribute [local congr] g_bin g_nilS g_nilP g_un g_ext g_bx g_fa g_ld g_st g_ix g_ixA g_slc g_mk g_bs g_bd g_nc g_cv g_len g_lenT g_app g_cpy g_mm g_call g_callG g_calm g_calmG g_range g_res g_pick g_cond g_loop g_Jv
theorem list_eq_getD {a b : List Int} (hl : a.length = b.length) (h : ∀ j, j < a.length → a.getD j 0 = b.getD j 0) : a = b := by
  refine List.ext_getElem? fun j => ?_
  by_cases hj : j < a.length
  · have := h j hj
    rw [List.getD_eq_getElem?_getD, List.getD_eq_getElem?_getD, List.getElem?_eq_getElem hj, List.getElem?_eq_getElem (hl ▸ hj)] at this
    rw [List.getElem?_eq_getElem hj, List.getElem?_eq_getElem (hl ▸ hj)]
    exact congrArg some this
  · rw [List.getElem?_eq_none (by omega), List.getElem?_eq_none (by omega)]
theorem rnd_same {n i x : Int} (hn : 0 < n) : rnd ((n - i) * x + (i + 1) * x) (n + 1) = x := by
  have e : (n - i) * x + (i + 1) * x = (n + 1) * x := by rw [← Int.add_mul]; congr 1; omega
  rw [e]
  have h1 := rnd_le (a := (n + 1) * x) (b := n + 1) (M := x) (by omega) (Int.le_refl _)
  have h2 := rnd_ge (a := (n + 1) * x) (b := n + 1) (m := x) (by omega) (Int.le_refl _)
  omega
theorem cut_ex {a : List Int} {p n : Int} (hn : 1 ≤ n) (hp : n ≤ p) (ha : p ≤ a.length) : existsB (a.take p.toNat) (a.drop (p - n).toNat) n 0 = true := by
  rw [existsB_iff]
  simp only [List.length_take, List.length_drop]
  omega
theorem cut_join {a : List Int} {p n : Int} (hn : 1 ≤ n) (hp : n ≤ p) (ha : p ≤ a.length) : joinL (a.take p.toNat) (a.drop (p - n).toNat) n 0 = a := by
  have he := cut_ex hn hp ha
  have hl := joinL_length he
  have l1 : (a.take p.toNat).length = p.toNat := by simp only [List.length_take]; omega
  have l2 : (a.drop (p - n).toNat).length = a.length - (p - n).toNat := by simp only [List.length_drop]
  refine list_eq_getD (by omega) fun j hj => ?_
  by_cases c1 : (j : Int) < p - n
  · rw [join_lo he j (by omega), List.getD_eq_getElem?_getD, List.getElem?_take_of_lt (by omega), ← List.getD_eq_getElem?_getD]
  · by_cases c2 : (j : Int) < p
    · obtain ⟨i, hi⟩ : ∃ i : Nat, j = (p - n).toNat + i := ⟨j - (p - n).toNat, by omega⟩
      have e := join_mid he i (by omega)
      rw [l1, show ((p.toNat : Int) - n).toNat + i = j by omega, show Int.toNat 0 + i = i by simp, drop_getD, ← hi, List.getD_eq_getElem?_getD (l := a.take p.toNat), List.getElem?_take_of_lt (by omega), ← List.getD_eq_getElem?_getD] at e
      rw [e]
      exact rnd_same (by omega)
    · obtain ⟨i, hi⟩ : ∃ i : Nat, j = p.toNat + i := ⟨j - p.toNat, by omega⟩
      have e := join_hi he i
      rw [l1, ← hi, drop_getD] at e
      rw [e]
      congr 1
      omega
theorem sq_zero {x : Int} (h : x * x = 0) : x = 0 := by
  rcases Int.mul_eq_zero.1 h with h | h <;> exact h
theorem misS_zero (a b : List Int) (n k : Int) : ∀ K : Nat, 0 ≤ misS a b n k K ∧ (misS a b n k K = 0 → ∀ i, i < K → sqd a b n k i = 0)
  | 0 => ⟨by simp [misS], fun _ i h => absurd h (Nat.not_lt_zero _)⟩
  | K + 1 => by
    have ih := misS_zero a b n k K
    have hs : 0 ≤ sqd a b n k K := by unfold sqd; exact sqn _
    rw [misS]
    refine ⟨by omega, fun h i hi => ?_⟩
    by_cases hk : i < K
    · exact ih.2 (by omega) i hk
    · have : i = K := by omega
      subst this
      omega
theorem self_step {a : List Int} {n k : Int} (he : existsB a a n k = true) (hm : mis a a n k = 0) (ha : Smp a) : stepV (joinL a a n k) ≤ stepV a := by
  have hx := existsB_iff.1 he
  have hl := joinL_length he
  have hz := (misS_zero a a n k n.toNat).2 hm
  have hab : ∀ i : Nat, (i : Int) < n → a.getD ((a.length - n).toNat + i) 0 = a.getD (k.toNat + i) 0 := fun i hi => by
    have := hz i (by omega)
    unfold sqd at this
    rw [show ((a.length : Int) - n + i).toNat = (a.length - n).toNat + i by omega, show (k + i).toNat = k.toNat + i by omega] at this
    have := sq_zero this
    omega
  have hmid : ∀ i : Nat, (i : Int) < n → (joinL a a n k).getD ((a.length - n).toNat + i) 0 = a.getD ((a.length - n).toNat + i) 0 := fun i hi => by
    rw [join_mid he i hi, ← hab i hi]
    exact rnd_same (by omega)
  have hlo : ∀ j : Nat, j < a.length → (joinL a a n k).getD j 0 = a.getD j 0 := fun j hj => by
    by_cases c : (j : Int) < a.length - n
    · exact join_lo he j c
    · have := hmid (j - (a.length - n).toNat) (by omega)
      rw [show (a.length - n).toNat + (j - (a.length - n).toNat) = j by omega] at this
      exact this
  refine stepS_le _ _ (stepV_bd ha).1 _ fun j hj => ?_
  unfold stepV
  by_cases c1 : j + 1 < a.length
  · rw [hlo j (by omega), hlo (j + 1) c1]
    exact stepS_ge a (a.length - 1) j (by omega)
  · by_cases c2 : j + 1 = a.length
    · have e' := join_hi he 0
      rw [show a.length + 0 = j + 1 by omega] at e'
      have e := hab (j - (a.length - n).toNat) (by omega)
      rw [show (a.length - n).toNat + (j - (a.length - n).toNat) = j by omega] at e
      rw [hlo j (by omega), e', e, show (k + n).toNat + 0 = k.toNat + (j - (a.length - n).toNat) + 1 by omega]
      exact stepS_ge a (a.length - 1) _ (by omega)
    · obtain ⟨i, hi⟩ : ∃ i : Nat, j = a.length + i := ⟨j - a.length, by omega⟩
      have e := join_hi he i
      have e' := join_hi he (i + 1)
      rw [← hi] at e
      rw [show a.length + (i + 1) = j + 1 by omega] at e'
      rw [e, e', show (k + n).toNat + (i + 1) = (k + n).toNat + i + 1 by omega]
      exact stepS_ge a (a.length - 1) _ (by omega)
end Go.Proofs.Ytehjfjdknllmhaa
