/- The theorem of joins. -/
import Derived.Test.YtehjfjdknllmhaaJR
set_option linter.unusedVariables false
set_option linter.unusedSimpArgs false
set_option linter.unnecessarySimpa false
set_option maxRecDepth 20000
set_option maxHeartbeats 2000000
namespace Go.Proofs.Ytehjfjdknllmhaa
open Go Go.Ab Go.Proofs
attribute [local congr] g_bin g_nilS g_nilP g_un g_ext g_bx g_fa g_ld g_st g_ix g_ixA g_slc g_mk g_bs g_bd g_nc g_cv g_len g_lenT g_app g_cpy g_mm g_call g_callG g_calm g_calmG g_range g_res g_pick g_cond g_loop g_Jv
theorem step_in' {n i A A' B B' M d : Int} (hi : 0 ≤ i) (hn : i + 1 < n) (hA : A - A' ≤ M) (hB : B - B' ≤ M) (hd : A - B ≤ d) :
    (n + 1) * (rnd ((n - i) * A + (i + 1) * B) (n + 1) - rnd ((n - (i + 1)) * A' + (i + 1 + 1) * B') (n + 1) - 1 - M) ≤ d := by
  have r1 := (rnd_near (a := (n - (i + 1)) * A' + (i + 1 + 1) * B') (b := n + 1) (by omega)).2
  have r2 := (rnd_near (a := (n - i) * A + (i + 1) * B) (b := n + 1) (by omega)).1
  generalize rnd ((n - (i + 1)) * A' + (i + 1 + 1) * B') (n + 1) = R1 at *
  generalize rnd ((n - i) * A + (i + 1) * B) (n + 1) = R2 at *
  have m1 := mulM (N := n - i - 1) (by omega) hA
  have m2 := mulM (N := i + 2) (by omega) hB
  simp only [Int.mul_add, Int.add_mul, Int.mul_sub, Int.sub_mul, Int.one_mul, Int.mul_one] at *
  omega
theorem step_at' {n A A' B M d : Int} (hn : 0 < n) (hA : A - A' ≤ M) (hd : A' - B ≤ d) :
    (n + 1) * (A - rnd (n * A' + B) (n + 1) - 1 - M) ≤ d := by
  have r1 := (rnd_near (a := n * A' + B) (b := n + 1) (by omega)).2
  generalize rnd (n * A' + B) (n + 1) = R1 at *
  have m1 := mulM (N := n + 1) (by omega) hA
  simp only [Int.mul_add, Int.add_mul, Int.mul_sub, Int.sub_mul, Int.one_mul, Int.mul_one] at *
  omega
theorem step_end {n A B B' M d : Int} (hn : 0 < n) (hB : B' - B ≤ M) (hd : B - A ≤ d) :
    (n + 1) * (B' - rnd (A + n * B) (n + 1) - 1 - M) ≤ d := by
  have r1 := (rnd_near (a := A + n * B) (b := n + 1) (by omega)).2
  generalize rnd (A + n * B) (n + 1) = R1 at *
  have m1 := mulM (N := n + 1) (by omega) hB
  simp only [Int.mul_add, Int.add_mul, Int.mul_sub, Int.sub_mul, Int.one_mul, Int.mul_one] at *
  omega
theorem step_end' {n A B B' M d : Int} (hn : 0 < n) (hB : B - B' ≤ M) (hd : A - B ≤ d) :
    (n + 1) * (rnd (A + n * B) (n + 1) - B' - 1 - M) ≤ d := by
  have r1 := (rnd_near (a := A + n * B) (b := n + 1) (by omega)).1
  generalize rnd (A + n * B) (n + 1) = R1 at *
  have m1 := mulM (N := n + 1) (by omega) hB
  simp only [Int.mul_add, Int.add_mul, Int.mul_sub, Int.sub_mul, Int.one_mul, Int.mul_one] at *
  omega
theorem step_out {N x M d : Int} (hN : 0 < N) (hx : x ≤ M) (hd : 0 ≤ d) : N * (x - 1 - M) ≤ d := by
  have := mulM (N := N) (c := x - 1 - M) (M := 0) (by omega) (by omega)
  omega
theorem join_step {a b : List Int} {n k M d : Int} (he : existsB a b n k = true) (hM1 : stepV a ≤ M) (hM2 : stepV b ≤ M) (hd : dS a b n k n.toNat ≤ d) (j : Nat) (hj : j + 1 < (joinL a b n k).length) :
    (n + 1) * ((joinL a b n k).getD (j + 1) 0 - (joinL a b n k).getD j 0 - 1 - M) ≤ d ∧ (n + 1) * ((joinL a b n k).getD j 0 - (joinL a b n k).getD (j + 1) 0 - 1 - M) ≤ d := by
  have hx := existsB_iff.1 he
  have hl := joinL_length he
  have d0 := dS_ge a b n k n.toNat
  have d00 := (d0 0 (by omega)).1
  unfold stepV at hM1 hM2
  by_cases c1 : ((j + 1 : Nat) : Int) < a.length - n
  · rw [join_lo he j (by omega), join_lo he (j + 1) c1]
    have := stepS_ge a (a.length - 1) j (by omega)
    exact ⟨step_out (by omega) (by omega) (by omega), step_out (by omega) (by omega) (by omega)⟩
  · by_cases c2 : ((j + 1 : Nat) : Int) = a.length - n
    · have e := join_mid he 0 (by omega)
      have es : (a.length - n).toNat + 0 = j + 1 := by omega
      rw [es] at e
      rw [join_lo he j (by omega), e]
      have := stepS_ge a (a.length - 1) j (by omega)
      have dd := d0 0 (by omega)
      rw [es] at dd
      simp only [Nat.add_zero, Int.natCast_zero, Int.cast_ofNat_Int, Int.sub_zero, Int.zero_add, Int.one_mul] at dd ⊢
      exact ⟨step_at (by omega) (by omega) (by omega), step_at' (by omega) (by omega) (by omega)⟩
    · by_cases c3 : j + 1 < a.length
      · obtain ⟨i, hi⟩ : ∃ i : Nat, j = (a.length - n).toNat + i := ⟨j - (a.length - n).toNat, by omega⟩
        have e := join_mid he i (by omega)
        have e' := join_mid he (i + 1) (by omega)
        rw [← hi] at e
        rw [show (a.length - n).toNat + (i + 1) = j + 1 by omega] at e'
        rw [e, e']
        have sa := stepS_ge a (a.length - 1) j (by omega)
        have sb := stepS_ge b (b.length - 1) (k.toNat + i) (by omega)
        have dd := d0 i (by omega)
        rw [← hi] at dd
        rw [show k.toNat + (i + 1) = k.toNat + i + 1 by omega]
        simp only [Int.natCast_add, Int.cast_ofNat_Int, Int.natCast_one]
        exact ⟨step_in (by omega) (by omega) (by omega) (by omega) (by omega), step_in' (by omega) (by omega) (by omega) (by omega) (by omega)⟩
      · by_cases c4 : j + 1 = a.length
        · obtain ⟨i, hi⟩ : ∃ i : Nat, j = (a.length - n).toNat + i := ⟨j - (a.length - n).toNat, by omega⟩
          have e := join_mid he i (by omega)
          have e' := join_hi he 0
          rw [← hi] at e
          rw [show a.length + 0 = j + 1 by omega] at e'
          rw [e, e']
          have sb := stepS_ge b (b.length - 1) (k.toNat + i) (by omega)
          have dd := d0 i (by omega)
          rw [← hi] at dd
          have ei : (i : Int) = n - 1 := by omega
          rw [show (k + n).toNat + 0 = k.toNat + i + 1 by omega, ei]
          rw [show n - (n - 1) = 1 by omega, show n - 1 + 1 = n by omega, Int.one_mul]
          exact ⟨step_end (by omega) (by omega) (by omega), step_end' (by omega) (by omega) (by omega)⟩
        · obtain ⟨i, hi⟩ : ∃ i : Nat, j = a.length + i := ⟨j - a.length, by omega⟩
          have e := join_hi he i
          have e' := join_hi he (i + 1)
          rw [← hi] at e
          rw [show a.length + (i + 1) = j + 1 by omega] at e'
          rw [e, e']
          have sb := stepS_ge b (b.length - 1) ((k + n).toNat + i) (by omega)
          rw [show (k + n).toNat + (i + 1) = (k + n).toNat + i + 1 by omega]
          exact ⟨step_out (by omega) (by omega) (by omega), step_out (by omega) (by omega) (by omega)⟩
theorem stepV_le {w : List Int} {N M d : Int} (hN : 0 < N) (hM : 0 ≤ M) (hd : 0 ≤ d) (h : ∀ j : Nat, j + 1 < w.length → N * (w.getD (j + 1) 0 - w.getD j 0 - 1 - M) ≤ d ∧ N * (w.getD j 0 - w.getD (j + 1) 0 - 1 - M) ≤ d) :
    (stepV w - M - 1) * N ≤ d := by
  have hq := Int.ediv_nonneg hd (show 0 ≤ N by omega)
  have hs : stepV w ≤ M + 1 + d / N := stepS_le w _ (by omega) _ fun i hi => by
    have := h i (by omega)
    have h1 := Int.le_ediv_of_mul_le hN (show (w.getD (i + 1) 0 - w.getD i 0 - 1 - M) * N ≤ d by rw [Int.mul_comm]; exact this.1)
    have h2 := Int.le_ediv_of_mul_le hN (show (w.getD i 0 - w.getD (i + 1) 0 - 1 - M) * N ≤ d by rw [Int.mul_comm]; exact this.2)
    omega
  have h1 := Int.mul_le_mul_of_nonneg_right (show stepV w - M - 1 ≤ d / N by omega) (show 0 ≤ N by omega)
  have h2 := Int.ediv_mul_le d (show N ≠ 0 by omega)
  omega
theorem stepV_bd {a : List Int} (h : Smp a) : 0 ≤ stepV a ∧ stepV a ≤ 65535 := stepS_bd h _
theorem join_lo_list {a b : List Int} {n k : Int} (he : existsB a b n k = true) : (joinL a b n k).take ((a.length : Int) - n).toNat = a.take ((a.length : Int) - n).toNat := by
  have hx := existsB_iff.1 he
  have ht : (a.take ((a.length : Int) - n).toNat).length = ((a.length : Int) - n).toNat := by simp only [List.length_take]; omega
  unfold joinL
  rw [List.take_append_of_le_length (by omega), List.take_of_length_le (by omega)]
theorem join_hi_list {a b : List Int} {n k : Int} (he : existsB a b n k = true) : (joinL a b n k).drop a.length = b.drop (k + n).toNat := by
  have hx := existsB_iff.1 he
  have hl : (a.drop ((a.length : Int) - n).toNat).length = n.toNat := by simp only [List.length_drop]; omega
  have ht : (a.take ((a.length : Int) - n).toNat).length = ((a.length : Int) - n).toNat := by simp only [List.length_take]; omega
  unfold joinL
  rw [← List.append_assoc, List.drop_left' (by rw [List.length_append, fadeL_length, hl, ht]; omega)]
theorem dS_bd {a b : List Int} (ha : Smp a) (hb : Smp b) (n k : Int) : ∀ i : Nat, 0 ≤ dS a b n k i ∧ dS a b n k i ≤ 65535
  | 0 => by simp [dS]
  | i + 1 => by
    have ih := dS_bd ha hb n k i
    have h1 := ha ((a.length - n).toNat + i)
    have h2 := hb (k.toNat + i)
    rw [dS]
    omega
end Go.Proofs.Ytehjfjdknllmhaa
