/- JoinGentle. -/
import Derived.Test.YtehjfjdknllmhaaJZ
import Derived.Test.YtehjfjdknllmhaaJR
import Derived.Test.YtehjfjdknllmhaaJVL9
set_option linter.unusedVariables false
set_option linter.unusedSimpArgs false
set_option linter.unnecessarySimpa false
set_option maxRecDepth 20000
set_option maxHeartbeats 2000000
namespace Go.Proofs.Ytehjfjdknllmhaa
open Go Go.Ab Go.Proofs
attribute [local congr] g_bin g_nilS g_nilP g_un g_ext g_bx g_fa g_ld g_st g_ix g_ixA g_slc g_mk g_bs g_bd g_nc g_cv g_len g_lenT g_app g_appB g_cpy g_mm g_call g_callG g_calm g_calmG g_range g_res g_pick g_cond g_loop g_Jv
theorem set_ne (x : List Int) {k j : Nat} (v : Int) (h : k ≠ j) : (x.set k v).getD j 0 = x.getD j 0 := by
  rw [List.getD_eq_getElem?_getD, List.getElem?_set_ne h, List.getD_eq_getElem?_getD]
theorem set_at (x : List Int) {k : Nat} (v : Int) (h : k < x.length) : (x.set k v).getD k 0 = v := by
  rw [List.getD_eq_getElem?_getD, List.getElem?_set_self h]
  rfl
theorem set_same {x : List Int} {k : Nat} {v : Int} (h : x.getD k 0 = v) : x.set k v = x := by
  by_cases hk : k < x.length
  · subst h
    refine List.ext_getElem? fun j => ?_
    by_cases e : k = j
    · subst e
      rw [List.getElem?_set_self hk, getD_some x hk]
    · rw [List.getElem?_set_ne e]
  · exact List.set_eq_of_length_le (by omega)
theorem smS_out {w p d : Int} (x : List Int) (j : Nat) : ∀ i : Nat, (i : Int) ≤ p → ((j : Int) < p - i ∨ p + i ≤ j) → (smS w p d x i).getD j 0 = x.getD j 0
  | 0, _, _ => rfl
  | i + 1, h1, h2 => by
    have ih := smS_out (w := w) (p := p) (d := d) x j i (by omega) (by omega)
    simp only [smS]
    rw [set_ne _ _ (by omega), set_ne _ _ (by omega), ih]
theorem smS_mid {w p d : Int} (x : List Int) (h1 : 1 ≤ p) (h2 : p < x.length) : ∀ i : Nat, (i : Int) + 1 ≤ p →
    (smS w p d x (i + 1)).getD (p - 1).toNat 0 = clipV (x.getD (p - 1).toNat 0 + rnd (d * w) (2 * w + 1)) ∧ (smS w p d x (i + 1)).getD p.toNat 0 = clipV (x.getD p.toNat 0 - rnd (d * w) (2 * w + 1))
  | 0, _ => by
    simp only [smS]
    have e1 : (p - 1 - ((0 : Nat) : Int)).toNat = (p - 1).toNat := by omega
    have e2 : (p + ((0 : Nat) : Int)).toNat = p.toNat := by omega
    have e3 : w - ((0 : Nat) : Int) = w := by omega
    rw [e1, e2, e3]
    refine ⟨?_, ?_⟩
    · rw [set_ne _ _ (by omega), set_at _ _ (by omega)]
    · rw [set_at _ _ (by rw [List.length_set]; omega), set_ne _ _ (by omega)]
  | i + 1, h => by
    have ih := smS_mid (w := w) (d := d) x h1 h2 i (by omega)
    rw [smS]
    rw [set_ne _ _ (by omega), set_ne _ _ (by omega), set_ne _ _ (by omega), set_ne _ _ (by omega)]
    exact ih
theorem rnd_zero {b : Int} (hb : 0 < b) : rnd 0 b = 0 := by
  have h1 := rnd_le (a := 0) (b := b) (M := 0) hb (by omega)
  have h2 := rnd_ge (a := 0) (b := b) (m := 0) hb (by omega)
  omega
theorem clip_id {x : Int} (h1 : -32768 ≤ x) (h2 : x ≤ 32767) : clipV x = x := by unfold clipV; omega
theorem smS_zero {w p : Int} (hw : 0 ≤ w) {x : List Int} (h : Smp x) : ∀ i : Nat, smS w p 0 x i = x
  | 0 => rfl
  | i + 1 => by
    rw [smS]
    rw [smS_zero hw h i, Int.zero_mul, rnd_zero (by omega), Int.add_zero, Int.sub_zero]
    have h1 := h (p - 1 - i).toNat
    have h2 := h (p + i).toNat
    rw [clip_id h1.1 h1.2, set_same rfl, clip_id h2.1 h2.2, set_same rfl]
theorem abs_clip {x y : Int} : max (clipV x - clipV y) (0 - (clipV x - clipV y)) ≤ max (x - y) (0 - (x - y)) := by
  unfold clipV
  omega
theorem gentle {w d u v : Int} (hw : 1 ≤ w) (hd : d = v - u) : (2 * w + 1) * (max (clipV (v - rnd (d * w) (2 * w + 1)) - clipV (u + rnd (d * w) (2 * w + 1))) (0 - (clipV (v - rnd (d * w) (2 * w + 1)) - clipV (u + rnd (d * w) (2 * w + 1)))) - 1) ≤ max d (0 - d) := by
  have hn := rnd_near (a := d * w) (b := 2 * w + 1) (by omega)
  have hc := abs_clip (x := v - rnd (d * w) (2 * w + 1)) (y := u + rnd (d * w) (2 * w + 1))
  generalize rnd (d * w) (2 * w + 1) = R at *
  generalize max (clipV (v - R) - clipV (u + R)) (0 - (clipV (v - R) - clipV (u + R))) = M at *
  have hM : M ≤ d - 2 * R ∨ M ≤ 2 * R - d := by omega
  have e1 : (2 * w + 1) * (d - 2 * R - 1) = 2 * (d * w) + d - 2 * ((2 * w + 1) * R) - (2 * w + 1) := by
    rw [Int.mul_sub, Int.mul_sub, Int.mul_one, Int.add_mul, Int.one_mul, Int.mul_assoc, Int.mul_comm w d, ← Int.mul_assoc (2 * w + 1) 2 R, Int.mul_comm (2 * w + 1) 2, Int.mul_assoc 2 (2 * w + 1) R]
  have e2 : (2 * w + 1) * (2 * R - d - 1) = 2 * ((2 * w + 1) * R) - (2 * (d * w) + d) - (2 * w + 1) := by
    rw [Int.mul_sub, Int.mul_sub, Int.mul_one, Int.add_mul (2 * w) 1 d, Int.one_mul, Int.mul_assoc 2 w d, Int.mul_comm w d, ← Int.mul_assoc (2 * w + 1) 2 R, Int.mul_comm (2 * w + 1) 2, Int.mul_assoc 2 (2 * w + 1) R]
  rcases hM with h | h
  · have := Int.mul_le_mul_of_nonneg_left (show M - 1 ≤ d - 2 * R - 1 by omega) (show 0 ≤ 2 * w + 1 by omega)
    omega
  · have := Int.mul_le_mul_of_nonneg_left (show M - 1 ≤ 2 * R - d - 1 by omega) (show 0 ≤ 2 * w + 1 by omega)
    omega
theorem gent_mkd {a : List Int} {p : Int} (ha : waveE a = 0) (h1 : 0 < p) (h2 : p < a.length) : Mkd a [0, p, (a.length : Int)] := by
  have hA := waveE_zero ha
  refine ⟨hA.2, hA.1, by simp, fun i hi => ?_, fun i hi => ?_, fun i hi => ?_⟩
  · match i, hi with
    | 0, _ => exact Int.le_refl 0
    | 1, _ => show 0 ≤ p; omega
    | 2, _ => show (0 : Int) ≤ a.length; omega
  · match i, hi with
    | 0, _ => show (0 : Int) ≤ a.length; omega
    | 1, _ => show p ≤ a.length; omega
    | 2, _ => exact Int.le_refl _
  · match i, hi with
    | 0, _ => exact h1
    | 1, _ => exact h2
theorem gent_val {a : List Int} {p w : Int} (h1 : 0 ≤ p - w) (h2 : p + w ≤ a.length) : smW a [0, p, (a.length : Int)] w = smS w p (a.getD p.toNat 0 - a.getD (p - 1).toNat 0) a w.toNat := by
  show (if p - w < 0 ∨ (a.length : Int) < p + w then a else smS w p (a.getD p.toNat 0 - a.getD (p - 1).toNat 0) a w.toNat) = _
  rw [if_neg (by omega)]
theorem leq_getD' {a b : List Int} (hl : a.length = b.length) (h : ∀ j, j < a.length → a.getD j 0 = b.getD j 0) : a = b := by
  refine List.ext_getElem? fun j => ?_
  by_cases hj : j < a.length
  · rw [getD_some a hj, getD_some b (by omega), h j hj]
  · rw [List.getElem?_eq_none (by omega), List.getElem?_eq_none (by omega)]
theorem getD_take (a : List Int) (k i : Nat) (h : i < k) : (a.take k).getD i 0 = a.getD i 0 := by
  rw [List.getD_eq_getElem?_getD, List.getElem?_take, if_pos h, List.getD_eq_getElem?_getD]
theorem c9 (a : List Int) (p w : Int) (hp : R64 p) (hw : R64 w) (H : Hp) : Ret Try.prog 9 [ints a .no, I p, I w] H (B true) H := by
  unfold R64 at hp hw
  refine mk9 _ _ _ rfl (Nat.le_refl _) (.inl rfl) ?_
  simp only [vc9, real]
  repeat (with_reducible first | refine jn_go ?_ | refine ud_go ?_ | refine tr_go ?_ | ((first | refine hd_Bin ?_ | refine hd_Ld ?_ | refine hd_FA ?_ | refine hd_Un ?_ | refine hd_Ext ?_ | refine hd_Bx ?_ | refine hd_St ?_ | refine hd_Ix ?_ | refine hd_Cond ?_ | refine hd_G ?_ | refine hd_If ?_ | refine hd_Cd ?_ | refine hd_Ok ?_ | refine hd_Len ?_ | refine hd_Slc ?_ | refine hd_Mk ?_ | refine hd_BS ?_ | refine hd_Bd ?_ | refine hd_App ?_ | refine hd_AppB ?_ | refine hd_MM ?_ | refine hd_CallG ?_ | refine hd_Cpy ?_ | refine hd_NC ?_ | refine hd_Cv ?_ | refine hd_Pick ?_ | refine hd_Res ?_ | refine hd_NilS ?_ | refine hd_NilP ?_ | refine hd_IxA ?_ | refine hd_LenT ?_ | refine hd_Rn ?_ | refine hd_Rv ?_ | refine hd_CallA ?_ | refine hd_CalmA ?_ | refine hd_Jv ?_); intro K Q hK hQ; simp only [nod_ints, nd_no, e_len, nod_imm, Try.underlying3, e_gtr, Try.underlying25, e_gF]; subst hK hQ) | refine rn_go ?_ | refine rv_go ?_ | refine jv_go ?_)
  by_cases h0 : (400 : Int) < a.length
  · have d0 := decide_eq_true h0
    repeat (with_reducible first | refine jn_go ?_ | refine ud_go ?_ | refine tr_go ?_ | ((first | refine hd_Bin ?_ | refine hd_Ld ?_ | refine hd_FA ?_ | refine hd_Un ?_ | refine hd_Ext ?_ | refine hd_Bx ?_ | refine hd_St ?_ | refine hd_Ix ?_ | refine hd_Cond ?_ | refine hd_G ?_ | refine hd_If ?_ | refine hd_Cd ?_ | refine hd_Ok ?_ | refine hd_Len ?_ | refine hd_Slc ?_ | refine hd_Mk ?_ | refine hd_BS ?_ | refine hd_Bd ?_ | refine hd_App ?_ | refine hd_AppB ?_ | refine hd_MM ?_ | refine hd_CallG ?_ | refine hd_Cpy ?_ | refine hd_NC ?_ | refine hd_Cv ?_ | refine hd_Pick ?_ | refine hd_Res ?_ | refine hd_NilS ?_ | refine hd_NilP ?_ | refine hd_IxA ?_ | refine hd_LenT ?_ | refine hd_Rn ?_ | refine hd_Rv ?_ | refine hd_CallA ?_ | refine hd_CalmA ?_ | refine hd_Jv ?_); intro K Q hK hQ; simp only [d0, cond_true, nod_imm, Try.underlying3, e_lss, e_gF, j_one, e_gtr, nod_ints, nd_no, e_len, e_sub, e_add, List.getD_cons_succ, List.getD_cons_zero, e_cond, if_true]; subst hK hQ) | refine rn_go ?_ | refine rv_go ?_ | refine jv_go ?_)
    refine call_of (c18 _) ?_
    with_reducible first | refine rv_go ?_ | refine rn_go ?_ | skip
    first | exact end1 (fzI _) | exact end1A (fzI _)
  have d0 := decide_eq_false h0
  repeat (with_reducible first | refine jn_go ?_ | refine ud_go ?_ | refine tr_go ?_ | ((first | refine hd_Bin ?_ | refine hd_Ld ?_ | refine hd_FA ?_ | refine hd_Un ?_ | refine hd_Ext ?_ | refine hd_Bx ?_ | refine hd_St ?_ | refine hd_Ix ?_ | refine hd_Cond ?_ | refine hd_G ?_ | refine hd_If ?_ | refine hd_Cd ?_ | refine hd_Ok ?_ | refine hd_Len ?_ | refine hd_Slc ?_ | refine hd_Mk ?_ | refine hd_BS ?_ | refine hd_Bd ?_ | refine hd_App ?_ | refine hd_AppB ?_ | refine hd_MM ?_ | refine hd_CallG ?_ | refine hd_Cpy ?_ | refine hd_NC ?_ | refine hd_Cv ?_ | refine hd_Pick ?_ | refine hd_Res ?_ | refine hd_NilS ?_ | refine hd_NilP ?_ | refine hd_IxA ?_ | refine hd_LenT ?_ | refine hd_Rn ?_ | refine hd_Rv ?_ | refine hd_CallA ?_ | refine hd_CalmA ?_ | refine hd_Jv ?_); intro K Q hK hQ; simp only [d0, cond_false]; subst hK hQ) | refine rn_go ?_ | refine rv_go ?_ | refine jv_go ?_)
  refine call_of (c42 a _ (by omega)) ?_
  by_cases he : waveE a = 0
  · rw [he]
    by_cases hb : w < 1 ∨ 100 < w ∨ p < 0 ∨ (a.length : Int) < p
    · have hd : (decide (w < 1) || decide (100 < w) || decide (p < 0) || decide ((a.length : Int) < p)) = true := by simp only [Bool.or_eq_true, Bool.and_eq_true, Bool.not_eq_true', Bool.or_eq_false_iff, Bool.and_eq_false_iff, decide_eq_false_iff_not, decide_eq_true_eq, Bool.not_eq_true]; omega
      repeat (first | (with_reducible first | refine jn_go ?_ | refine ud_go ?_ | refine tr_go ?_ | ((first | refine hd_Bin ?_ | refine hd_Ld ?_ | refine hd_FA ?_ | refine hd_Un ?_ | refine hd_Ext ?_ | refine hd_Bx ?_ | refine hd_St ?_ | refine hd_Ix ?_ | refine hd_Cond ?_ | refine hd_G ?_ | refine hd_If ?_ | refine hd_Cd ?_ | refine hd_Ok ?_ | refine hd_Len ?_ | refine hd_Slc ?_ | refine hd_Mk ?_ | refine hd_BS ?_ | refine hd_Bd ?_ | refine hd_App ?_ | refine hd_AppB ?_ | refine hd_MM ?_ | refine hd_CallG ?_ | refine hd_Cpy ?_ | refine hd_NC ?_ | refine hd_Cv ?_ | refine hd_Pick ?_ | refine hd_Res ?_ | refine hd_NilS ?_ | refine hd_NilP ?_ | refine hd_IxA ?_ | refine hd_LenT ?_ | refine hd_Rn ?_ | refine hd_Rv ?_ | refine hd_CallA ?_ | refine hd_CalmA ?_ | refine hd_Jv ?_); intro K Q hK hQ; simp only [nod_imm, e_neq, decide_true, Bool.not_true, Try.underlying3, e_lss, e_gF, cond_false, j_one, e_gtr, j_or', nod_ints, nd_no, e_len, hd, e_sub, cond_true, e_add, List.getD_cons_succ, List.getD_cons_zero, e_cond, if_true]; subst hK hQ) | refine rn_go ?_ | refine rv_go ?_ | refine jv_go ?_) | refine And.intro (by first | (unfold R64; omega) | omega | assumption | (intros; first | (unfold R64; omega) | omega) | (simp only [List.length_append, List.length_cons, List.length_nil, List.length_map, List.length_range]; omega)) ?_)
      refine call_of (c18 _) ?_
      with_reducible first | refine rv_go ?_ | refine rn_go ?_ | skip
      first | exact end1 (fzI _) | exact end1A (fzI _)
    have d1 : decide (w < 1) = false := decide_eq_false (by omega)
    have d2 : decide (100 < w) = false := decide_eq_false (by omega)
    have d3 : decide (p < 0) = false := decide_eq_false (by omega)
    have d4 : decide ((a.length : Int) < p) = false := decide_eq_false (by omega)
    by_cases hb2 : p - w < 1 ∨ (a.length : Int) < p + w
    · have hd : (decide (p - w < 1) || decide ((a.length : Int) < p + w)) = true := by simp only [Bool.or_eq_true, Bool.and_eq_true, Bool.not_eq_true', Bool.or_eq_false_iff, Bool.and_eq_false_iff, decide_eq_false_iff_not, decide_eq_true_eq, Bool.not_eq_true]; omega
      repeat (first | (with_reducible first | refine jn_go ?_ | refine ud_go ?_ | refine tr_go ?_ | ((first | refine hd_Bin ?_ | refine hd_Ld ?_ | refine hd_FA ?_ | refine hd_Un ?_ | refine hd_Ext ?_ | refine hd_Bx ?_ | refine hd_St ?_ | refine hd_Ix ?_ | refine hd_Cond ?_ | refine hd_G ?_ | refine hd_If ?_ | refine hd_Cd ?_ | refine hd_Ok ?_ | refine hd_Len ?_ | refine hd_Slc ?_ | refine hd_Mk ?_ | refine hd_BS ?_ | refine hd_Bd ?_ | refine hd_App ?_ | refine hd_AppB ?_ | refine hd_MM ?_ | refine hd_CallG ?_ | refine hd_Cpy ?_ | refine hd_NC ?_ | refine hd_Cv ?_ | refine hd_Pick ?_ | refine hd_Res ?_ | refine hd_NilS ?_ | refine hd_NilP ?_ | refine hd_IxA ?_ | refine hd_LenT ?_ | refine hd_Rn ?_ | refine hd_Rv ?_ | refine hd_CallA ?_ | refine hd_CalmA ?_ | refine hd_Jv ?_); intro K Q hK hQ; simp only [nod_imm, e_neq, decide_true, Bool.not_true, Try.underlying3, e_lss, d1, e_gF, cond_false, j_one, e_gtr, d2, d3, nod_ints, nd_no, e_len, d4, e_sub, j_side, e_add, j_fl, decide_eq_false_iff_not, j_or', hd, List.getD_cons_succ, List.getD_cons_zero, e_cond, if_true]; subst hK hQ) | refine rn_go ?_ | refine rv_go ?_ | refine jv_go ?_) | refine And.intro (by first | (unfold R64; omega) | omega | assumption | (intros; first | (unfold R64; omega) | omega) | (simp only [List.length_append, List.length_cons, List.length_nil, List.length_map, List.length_range]; omega)) ?_)
      refine call_of (c18 _) ?_
      with_reducible first | refine rv_go ?_ | refine rn_go ?_ | skip
      first | exact end1 (fzI _) | exact end1A (fzI _)
    have hd : (decide (p - w < 1) || decide ((a.length : Int) < p + w)) = false := by simp only [Bool.or_eq_false_iff, decide_eq_false_iff_not]; omega
    have hA := waveE_zero he
    have hM := gent_mkd (p := p) he (by omega) (by omega)
    have hE : smE a [0, p, (a.length : Int)] w = 0 := by unfold smE; rw [if_neg (by simp [hM.ok]), if_neg (by omega)]
    have g1 := fun H => c43 a [0, p, (a.length : Int)] w H (by omega) (by simp)
    have hv := gent_val (a := a) (p := p) (w := w) (by omega) (by omega)
    simp only [hE, if_true, hv] at g1
    obtain ⟨n, rfl⟩ : ∃ n : Nat, w = n + 1 := ⟨(w - 1).toNat, by omega⟩
    have ew : ((n : Int) + 1).toNat = n + 1 := by omega
    rw [ew] at g1
    have hlen := smS_len (n + 1) p (a.getD p.toNat 0 - a.getD (p - 1).toNat 0) a (n + 1)
    have hout := fun j => smS_out (w := n + 1) (p := p) (d := a.getD p.toNat 0 - a.getD (p - 1).toNat 0) a j (n + 1) (by omega)
    have hmid := smS_mid (w := n + 1) (p := p) (d := a.getD p.toNat 0 - a.getD (p - 1).toNat 0) a (by omega) (by omega) n (by omega)
    have hgen := gentle (w := n + 1) (d := a.getD p.toNat 0 - a.getD (p - 1).toNat 0) (u := a.getD (p - 1).toNat 0) (v := a.getD p.toNat 0) (by omega) rfl
    rw [← hmid.1, ← hmid.2] at hgen
    have hsp := smS_smp hA.2 (n + 1) p (a.getD p.toNat 0 - a.getD (p - 1).toNat 0) (n + 1)
    have hz : a.getD p.toNat 0 - a.getD (p - 1).toNat 0 = 0 → smS (n + 1) p (a.getD p.toNat 0 - a.getD (p - 1).toNat 0) a (n + 1) = a := fun h => by rw [h]; exact smS_zero (by omega) hA.2 _
    generalize smS (n + 1) p (a.getD p.toNat 0 - a.getD (p - 1).toNat 0) a (n + 1) = b at *
    have t1 : a.take (p - (n + 1)).toNat = b.take (p - (n + 1)).toNat := leq_getD' (by rw [List.length_take, List.length_take, hlen]) fun j hj => by
      rw [List.length_take] at hj
      rw [getD_take _ _ _ (by omega), getD_take _ _ _ (by omega), hout j (by omega)]
    have t2 : a.drop (p + (n + 1)).toNat = b.drop (p + (n + 1)).toNat := leq_getD' (by rw [List.length_drop, List.length_drop, hlen]) fun j hj => by
      rw [drop_getD, drop_getD, hout _ (by omega)]
    have u1 := hA.2 p.toNat
    have u2 := hA.2 (p - 1).toNat
    have u3 := hsp p.toNat
    have u4 := hsp (p - 1).toNat
    have d5 : decide (p = (a.length : Int)) = false := decide_eq_false (by omega)
    repeat (first | (with_reducible first | refine jn_go ?_ | refine ud_go ?_ | refine tr_go ?_ | ((first | refine hd_Bin ?_ | refine hd_Ld ?_ | refine hd_FA ?_ | refine hd_Un ?_ | refine hd_Ext ?_ | refine hd_Bx ?_ | refine hd_St ?_ | refine hd_Ix ?_ | refine hd_Cond ?_ | refine hd_G ?_ | refine hd_If ?_ | refine hd_Cd ?_ | refine hd_Ok ?_ | refine hd_Len ?_ | refine hd_Slc ?_ | refine hd_Mk ?_ | refine hd_BS ?_ | refine hd_Bd ?_ | refine hd_App ?_ | refine hd_AppB ?_ | refine hd_MM ?_ | refine hd_CallG ?_ | refine hd_Cpy ?_ | refine hd_NC ?_ | refine hd_Cv ?_ | refine hd_Pick ?_ | refine hd_Res ?_ | refine hd_NilS ?_ | refine hd_NilP ?_ | refine hd_IxA ?_ | refine hd_LenT ?_ | refine hd_Rn ?_ | refine hd_Rv ?_ | refine hd_CallA ?_ | refine hd_CalmA ?_ | refine hd_Jv ?_); intro K Q hK hQ; simp only [nod_imm, e_neq, decide_true, Bool.not_true, Try.underlying3, e_lss, d1, e_gF, cond_false, j_one, e_gtr, d2, d3, nod_ints, nd_no, e_len, d4, e_sub, j_side, e_add, j_fl, decide_eq_false_iff_not, j_or', hd, List.getD_cons_succ, List.getD_cons_zero, e_cond, Bool.false_eq_true, if_false, bs3, nd_full, e_bd1, okE_ints, Nat.zero_add, lv_cons, List.length_nil, Nat.reduceAdd, Nat.reduceLeDiff, cl_ints, spl_0, spl_n, spl_s, e_bd0, true_and, own0_ints, nod_agg, List.map_cons, nodL_ints, List.map_nil]; subst hK hQ) | refine rn_go ?_ | refine rv_go ?_ | refine jv_go ?_) | refine And.intro (by first | (unfold R64; omega) | omega | assumption | (intros; first | (unfold R64; omega) | omega) | (simp only [List.length_append, List.length_cons, List.length_nil, List.length_map, List.length_range]; omega)) ?_)
    refine call_wk (g1 _) (.cons (.mix [(a.map I, false), ([0, p, (a.length : Int)].map I, true)]) (.cons (.refl _) .nil)) ?_
    repeat (first | (with_reducible first | refine jn_go ?_ | refine ud_go ?_ | refine tr_go ?_ | ((first | refine hd_Bin ?_ | refine hd_Ld ?_ | refine hd_FA ?_ | refine hd_Un ?_ | refine hd_Ext ?_ | refine hd_Bx ?_ | refine hd_St ?_ | refine hd_Ix ?_ | refine hd_Cond ?_ | refine hd_G ?_ | refine hd_If ?_ | refine hd_Cd ?_ | refine hd_Ok ?_ | refine hd_Len ?_ | refine hd_Slc ?_ | refine hd_Mk ?_ | refine hd_BS ?_ | refine hd_Bd ?_ | refine hd_App ?_ | refine hd_AppB ?_ | refine hd_MM ?_ | refine hd_CallG ?_ | refine hd_Cpy ?_ | refine hd_NC ?_ | refine hd_Cv ?_ | refine hd_Pick ?_ | refine hd_Res ?_ | refine hd_NilS ?_ | refine hd_NilP ?_ | refine hd_IxA ?_ | refine hd_LenT ?_ | refine hd_Rn ?_ | refine hd_Rv ?_ | refine hd_CallA ?_ | refine hd_CalmA ?_ | refine hd_Jv ?_); intro K Q hK hQ; simp only [nod_tup, List.map_cons, nod2_agg, nodL_ints, nd_no, List.map_nil, nod2_imm, e_x20, e_x21, e_bx, okE_agg, lv_cons, List.length_nil, Nat.zero_add, Nat.reduceAdd, all_c, ck_arr, all_n, Bool.and_self, and_true, cl_agg, true_and, nod_ptr, e_sc0, Nat.reduceLeDiff, stV_agg, ck_ints, spl_0, spl_n, List.getD_cons_zero, List.getD_cons_succ, nod_ints, e_len, nod_imm, Try.underlying3, e_eql, d5, e_cond, Bool.false_eq_true, if_false, Try.underlying25, e_neq, decide_true, Bool.not_true, e_fa, Nat.add_zero, e_lc0, hlen, e_gF, cond_false, j_one, e_sub, e_slcHi, t1]; subst hK hQ) | refine rn_go ?_ | refine rv_go ?_ | refine jv_go ?_) | refine And.intro (by first | (unfold R64; omega) | omega | assumption | (intros; first | (unfold R64; omega) | omega) | (simp only [List.length_append, List.length_cons, List.length_nil, List.length_map, List.length_range]; omega)) ?_)
    refine call_of (k21 _ .no _ (by rw [List.length_take]; omega)) ?_
    repeat (first | (with_reducible first | refine jn_go ?_ | refine ud_go ?_ | refine tr_go ?_ | ((first | refine hd_Bin ?_ | refine hd_Ld ?_ | refine hd_FA ?_ | refine hd_Un ?_ | refine hd_Ext ?_ | refine hd_Bx ?_ | refine hd_St ?_ | refine hd_Ix ?_ | refine hd_Cond ?_ | refine hd_G ?_ | refine hd_If ?_ | refine hd_Cd ?_ | refine hd_Ok ?_ | refine hd_Len ?_ | refine hd_Slc ?_ | refine hd_Mk ?_ | refine hd_BS ?_ | refine hd_Bd ?_ | refine hd_App ?_ | refine hd_AppB ?_ | refine hd_MM ?_ | refine hd_CallG ?_ | refine hd_Cpy ?_ | refine hd_NC ?_ | refine hd_Cv ?_ | refine hd_Pick ?_ | refine hd_Res ?_ | refine hd_NilS ?_ | refine hd_NilP ?_ | refine hd_IxA ?_ | refine hd_LenT ?_ | refine hd_Rn ?_ | refine hd_Rv ?_ | refine hd_CallA ?_ | refine hd_CalmA ?_ | refine hd_Jv ?_); intro K Q hK hQ; simp only [nod_imm, e_not, Bool.not_true, List.getD_cons_succ, List.getD_cons_zero, Try.underlying3, nod_ints, nd_no, e_add, e_slcLo, hlen, t2, e_gF, cond_false, j_side]; subst hK hQ) | refine rn_go ?_ | refine rv_go ?_ | refine jv_go ?_) | refine And.intro (by first | (unfold R64; omega) | omega | assumption | (intros; first | (unfold R64; omega) | omega) | (simp only [List.length_append, List.length_cons, List.length_nil, List.length_map, List.length_range]; omega)) ?_)
    refine call_of (k21 _ .no _ (by rw [List.length_drop]; omega)) ?_
    have hg := decide_eq_true hgen
    generalize hD : a.getD p.toNat 0 - a.getD (p - 1).toNat 0 = D at *
    generalize hC : b.getD p.toNat 0 - b.getD (p - 1).toNat 0 = C at *
    have mb := abs_mul_le (a := 2 * ((n : Int) + 1) + 1) (b := max C (0 - C) - 1) (A := 201) (B := 65536) (by omega) (by omega) (by omega) (by omega)
    by_cases hq : 0 < max D (0 - D)
    · have d6 := decide_eq_true hq
      repeat (first | (with_reducible first | refine jn_go ?_ | refine ud_go ?_ | refine tr_go ?_ | ((first | refine hd_Bin ?_ | refine hd_Ld ?_ | refine hd_FA ?_ | refine hd_Un ?_ | refine hd_Ext ?_ | refine hd_Bx ?_ | refine hd_St ?_ | refine hd_Ix ?_ | refine hd_Cond ?_ | refine hd_G ?_ | refine hd_If ?_ | refine hd_Cd ?_ | refine hd_Ok ?_ | refine hd_Len ?_ | refine hd_Slc ?_ | refine hd_Mk ?_ | refine hd_BS ?_ | refine hd_Bd ?_ | refine hd_App ?_ | refine hd_AppB ?_ | refine hd_MM ?_ | refine hd_CallG ?_ | refine hd_Cpy ?_ | refine hd_NC ?_ | refine hd_Cv ?_ | refine hd_Pick ?_ | refine hd_Res ?_ | refine hd_NilS ?_ | refine hd_NilP ?_ | refine hd_IxA ?_ | refine hd_LenT ?_ | refine hd_Rn ?_ | refine hd_Rv ?_ | refine hd_CallA ?_ | refine hd_CalmA ?_ | refine hd_Jv ?_); intro K Q hK hQ; simp only [nod_imm, e_not, Bool.not_true, List.getD_cons_zero, List.getD_cons_succ, e_cond, Bool.false_eq_true, if_false, nod_ints, nd_no, e_ix, nod_cptr, e_ldc, Try.underlying3, e_sub, hD, hlen, hC, e_neg, e_max2, e_mul, e_add, e_leq, hg, nod_nod, e_gtr, d6, e_gF, cond_true, true_and, e_gT, j_one]; subst hK hQ) | refine rn_go ?_ | refine rv_go ?_ | refine jv_go ?_) | refine And.intro (by first | (unfold R64; omega) | omega | assumption | (intros; first | (unfold R64; omega) | omega) | (simp only [List.length_append, List.length_cons, List.length_nil, List.length_map, List.length_range]; omega)) ?_)
      refine call_of (c18 _) ?_
      with_reducible first | refine rv_go ?_ | refine rn_go ?_ | skip
      first | exact end1 (fzI _) | exact end1A (fzI _)
    · have d6 := decide_eq_false hq
      have hba := hz (by omega)
      subst hba
      have hCD : D = C := hD.symm.trans hC
      subst hCD
      repeat (first | (with_reducible first | refine jn_go ?_ | refine ud_go ?_ | refine tr_go ?_ | ((first | refine hd_Bin ?_ | refine hd_Ld ?_ | refine hd_FA ?_ | refine hd_Un ?_ | refine hd_Ext ?_ | refine hd_Bx ?_ | refine hd_St ?_ | refine hd_Ix ?_ | refine hd_Cond ?_ | refine hd_G ?_ | refine hd_If ?_ | refine hd_Cd ?_ | refine hd_Ok ?_ | refine hd_Len ?_ | refine hd_Slc ?_ | refine hd_Mk ?_ | refine hd_BS ?_ | refine hd_Bd ?_ | refine hd_App ?_ | refine hd_AppB ?_ | refine hd_MM ?_ | refine hd_CallG ?_ | refine hd_Cpy ?_ | refine hd_NC ?_ | refine hd_Cv ?_ | refine hd_Pick ?_ | refine hd_Res ?_ | refine hd_NilS ?_ | refine hd_NilP ?_ | refine hd_IxA ?_ | refine hd_LenT ?_ | refine hd_Rn ?_ | refine hd_Rv ?_ | refine hd_CallA ?_ | refine hd_CalmA ?_ | refine hd_Jv ?_); intro K Q hK hQ; simp only [nod_imm, e_not, Bool.not_true, List.getD_cons_zero, List.getD_cons_succ, e_cond, Bool.false_eq_true, if_false, nod_ints, nd_no, e_ix, nod_cptr, e_ldc, Try.underlying3, e_sub, hD, e_neg, e_max2, e_mul, e_add, e_leq, hg, nod_nod, e_gtr, d6, e_gF, cond_false, true_and, e_gT, cond_true]; subst hK hQ) | refine rn_go ?_ | refine rv_go ?_ | refine jv_go ?_) | refine And.intro (by first | (unfold R64; omega) | omega | assumption | (intros; first | (unfold R64; omega) | omega) | (simp only [List.length_append, List.length_cons, List.length_nil, List.length_map, List.length_range]; omega)) ?_)
      refine call_of (k21 b .no _ (by omega)) ?_
      repeat (first | (with_reducible first | refine jn_go ?_ | refine ud_go ?_ | refine tr_go ?_ | ((first | refine hd_Bin ?_ | refine hd_Ld ?_ | refine hd_FA ?_ | refine hd_Un ?_ | refine hd_Ext ?_ | refine hd_Bx ?_ | refine hd_St ?_ | refine hd_Ix ?_ | refine hd_Cond ?_ | refine hd_G ?_ | refine hd_If ?_ | refine hd_Cd ?_ | refine hd_Ok ?_ | refine hd_Len ?_ | refine hd_Slc ?_ | refine hd_Mk ?_ | refine hd_BS ?_ | refine hd_Bd ?_ | refine hd_App ?_ | refine hd_AppB ?_ | refine hd_MM ?_ | refine hd_CallG ?_ | refine hd_Cpy ?_ | refine hd_NC ?_ | refine hd_Cv ?_ | refine hd_Pick ?_ | refine hd_Res ?_ | refine hd_NilS ?_ | refine hd_NilP ?_ | refine hd_IxA ?_ | refine hd_LenT ?_ | refine hd_Rn ?_ | refine hd_Rv ?_ | refine hd_CallA ?_ | refine hd_CalmA ?_ | refine hd_Jv ?_); intro K Q hK hQ; simp only [nod_imm, e_gT, cond_true]; subst hK hQ) | refine rn_go ?_ | refine rv_go ?_ | refine jv_go ?_) | refine And.intro (by first | (unfold R64; omega) | omega | assumption | (intros; first | (unfold R64; omega) | omega) | (simp only [List.length_append, List.length_cons, List.length_nil, List.length_map, List.length_range]; omega)) ?_)
      refine call_of (c18 _) ?_
      with_reducible first | refine rv_go ?_ | refine rn_go ?_ | skip
      first | exact end1 (fzI _) | exact end1A (fzI _)
  · repeat (with_reducible first | refine jn_go ?_ | refine ud_go ?_ | refine tr_go ?_ | ((first | refine hd_Bin ?_ | refine hd_Ld ?_ | refine hd_FA ?_ | refine hd_Un ?_ | refine hd_Ext ?_ | refine hd_Bx ?_ | refine hd_St ?_ | refine hd_Ix ?_ | refine hd_Cond ?_ | refine hd_G ?_ | refine hd_If ?_ | refine hd_Cd ?_ | refine hd_Ok ?_ | refine hd_Len ?_ | refine hd_Slc ?_ | refine hd_Mk ?_ | refine hd_BS ?_ | refine hd_Bd ?_ | refine hd_App ?_ | refine hd_AppB ?_ | refine hd_MM ?_ | refine hd_CallG ?_ | refine hd_Cpy ?_ | refine hd_NC ?_ | refine hd_Cv ?_ | refine hd_Pick ?_ | refine hd_Res ?_ | refine hd_NilS ?_ | refine hd_NilP ?_ | refine hd_IxA ?_ | refine hd_LenT ?_ | refine hd_Rn ?_ | refine hd_Rv ?_ | refine hd_CallA ?_ | refine hd_CalmA ?_ | refine hd_Jv ?_); intro K Q hK hQ; simp only [nod_imm, e_neq, he, decide_false, Bool.not_false, Try.underlying3, e_lss, e_gF, cond_true, j_one, e_gtr, nod_ints, nd_no, e_len, e_sub, e_add, List.getD_cons_succ, List.getD_cons_zero, e_cond, if_true]; subst hK hQ) | refine rn_go ?_ | refine rv_go ?_ | refine jv_go ?_)
    refine call_of (c18 _) ?_
    with_reducible first | refine rv_go ?_ | refine rn_go ?_ | skip
    first | exact end1 (fzI _) | exact end1A (fzI _)
end Go.Proofs.Ytehjfjdknllmhaa
