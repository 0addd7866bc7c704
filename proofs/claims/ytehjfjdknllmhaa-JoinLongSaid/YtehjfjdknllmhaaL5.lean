/- JoinLong. -/
import Derived.Test.YtehjfjdknllmhaaJY
import Derived.Test.YtehjfjdknllmhaaJP
import Derived.Test.YtehjfjdknllmhaaJVL5
set_option linter.unusedVariables false
set_option linter.unusedSimpArgs false
set_option linter.unnecessarySimpa false
set_option maxRecDepth 20000
set_option maxHeartbeats 2000000
namespace Go.Proofs.Ytehjfjdknllmhaa
open Go Go.Ab Go.Proofs
attribute [local congr] g_bin g_nilS g_nilP g_un g_ext g_bx g_fa g_ld g_st g_ix g_ixA g_slc g_mk g_bs g_bd g_nc g_cv g_len g_lenT g_app g_cpy g_mm g_call g_callG g_calm g_calmG g_range g_res g_pick g_cond g_loop g_Jv
def marks (L : Int) (k : Nat) : List Int := (List.range k).map fun (i : Nat) => (i : Int) * L
theorem marks_len (L : Int) (k : Nat) : (marks L k).length = k := by simp [marks]
theorem marks_get (L : Int) (k i : Nat) (h : i < k) : (marks L k).getD i 0 = i * L := by
  unfold marks
  rw [List.getD_eq_getElem?_getD, List.getElem?_map, List.getElem?_range h]
  rfl
theorem marks_succ (L : Int) (k : Nat) : marks L (k + 1) = marks L k ++ [(k : Int) * L] := by
  unfold marks
  rw [List.range_succ, List.map_append]
  rfl
def zers (n : Int) : List Int := List.replicate n.toNat 0
theorem mulL {L : Int} {k i : Nat} (h1 : 1 ≤ L) (h2 : L ≤ 100) (hk : k ≤ 1000) (hi : i ≤ k) : 0 ≤ (i : Int) * L ∧ (i : Int) * L ≤ k * L ∧ (k : Int) * L ≤ 100000 := by
  refine ⟨Int.mul_nonneg (by omega) (by omega), Int.mul_le_mul_of_nonneg_right (by omega) (by omega), ?_⟩
  have := Int.mul_le_mul (a := (k : Int)) (b := L) (c := 1000) (d := 100) (by omega) (by omega) (by omega) (by omega)
  omega
theorem long_mkd {L : Int} {k : Nat} (h1 : 1 ≤ L) (h2 : L ≤ 100) (hk1 : 1 ≤ k) (hk : k ≤ 1000) : Mkd (zers (L * k)) (marks L (k + 1)) := by
  have e : (zers (L * k)).length = ((k : Int) * L).toNat := by unfold zers; rw [List.length_replicate, Int.mul_comm]
  have b := mulL h1 h2 hk (Nat.le_refl k)
  refine ⟨smp_of fun v hv => by have := List.eq_of_mem_replicate hv; omega, by omega, by rw [marks_len]; omega, fun i hi => ?_, fun i hi => ?_, fun i hi => ?_⟩
  · rw [marks_len] at hi
    rw [marks_get _ _ _ hi]
    exact (mulL h1 h2 hk (show i ≤ k by omega)).1
  · rw [marks_len] at hi
    rw [marks_get _ _ _ hi]
    have := (mulL h1 h2 hk (show i ≤ k by omega)).2.1
    omega
  · rw [marks_len] at hi
    rw [marks_get _ _ _ (by omega), marks_get _ _ _ (by omega)]
    rw [Int.natCast_add, Int.add_mul]
    omega
theorem long_per {L : Int} {k : Nat} (h1 : 1 ≤ L) (h2 : L ≤ 100) (hk1 : 1 ≤ k) (hk : k ≤ 1000) : ∀ x, x ∈ perL (zers (L * k)) (marks L (k + 1)) → x.length = L.toNat := fun x hx => by
  unfold perL at hx
  obtain ⟨i, hi, rfl⟩ := List.mem_map.1 hx
  rw [List.mem_range, marks_len] at hi
  have := per_length (long_mkd h1 h2 hk1 hk) i (by rw [marks_len]; omega)
  rw [marks_get _ _ _ (by omega), marks_get _ _ _ (by omega), Int.natCast_add, Int.add_mul] at this
  omega
theorem flat_const {n : Nat} : ∀ l : List (List Int), (∀ x, x ∈ l → x.length = n) → l.flatten.length = l.length * n
  | [], _ => by simp
  | x :: l, h => by
    have := flat_const l fun y hy => h y (by simp [hy])
    have := h x (by simp)
    simp only [List.flatten_cons, List.length_append, List.length_cons, Nat.add_mul]
    omega
theorem long_ends {L : Int} {k : Nat} (h1 : 1 ≤ L) (h2 : L ≤ 100) (hk1 : 1 ≤ k) (hk : k ≤ 1000) : (headL (zers (L * k)) (marks L (k + 1))).length = 0 ∧ (tailL (zers (L * k)) (marks L (k + 1))).length = 0 := by
  constructor
  · unfold headL
    rw [marks_get _ _ _ (by omega)]
    simp
  · unfold tailL
    rw [marks_len, Nat.add_sub_cancel, marks_get _ _ _ (by omega)]
    unfold zers
    rw [List.length_drop, List.length_replicate, Int.mul_comm L]
    omega
theorem long_str {L a b : Int} {k : Nat} (h1 : 1 ≤ L) (h2 : L ≤ 100) (hk1 : 1 ≤ k) (hk : k ≤ 1000) : ((strP (perL (zers (L * k)) (marks L (k + 1))) a b).flatten.length : Int) = L * nearV k a b := by
  have hM := long_mkd h1 h2 hk1 hk
  have hl : (perL (zers (L * k)) (marks L (k + 1))).length = k := by rw [perL_length, marks_len]; omega
  have hn : 1 ≤ nearV k a b := by unfold nearV; omega
  rw [flat_const _ fun x hx => long_per h1 h2 hk1 hk x (strP_mem (perL_ne hM) hx), strP_length, hl, Int.natCast_mul, Int.mul_comm]
  congr 1 <;> omega
theorem long_tr {L a b : Int} {k : Nat} (h1 : 1 ≤ L) (h2 : L ≤ 100) (hk1 : 1 ≤ k) (hk : k ≤ 1000) : ((trP (perL (zers (L * k)) (marks L (k + 1))) a b).flatten.length : Int) = k * nearV L b a := by
  have hl : (perL (zers (L * k)) (marks L (k + 1))).length = k := by rw [perL_length, marks_len]; omega
  have hn : 1 ≤ nearV L b a := by unfold nearV; omega
  rw [flat_const (n := (nearV L b a).toNat) _ fun x hx => by
    unfold trP at hx
    obtain ⟨p, hp, rfl⟩ := List.mem_map.1 hx
    have hp := long_per h1 h2 hk1 hk p hp
    rw [trP1_length, show (p.length : Int) = L by omega], trP_length, hl, Int.natCast_mul]
  congr 1
  omega
/-- What comes out of a change whose length is known. -/
theorem chV_size {s m : List Int} {a b : Int} {l : List (List Int)} {n : Int} (he : Mkd s m) (hr : ratioB a b = true) (hh : (headL s m).length = 0) (ht : (tailL s m).length = 0) (hn : (l.flatten.length : Int) = n) :
    (100000 < n ∧ chV s m a b l = .tup [mkd [] [], I 4]) ∨ (n ≤ 100000 ∧ ∃ x y : List Int, (x.length : Int) = n ∧ chV s m a b l = .tup [mkd x y, I 0]) := by
  unfold chV
  rw [if_neg (by simp [he.ok]), if_neg (by simp [hr])]
  by_cases h : 100000 < n
  · exact .inl ⟨h, by rw [if_pos (by omega)]⟩
  · refine .inr ⟨by omega, _, _, ?_, by rw [if_neg (by omega)]⟩
    rw [builtS_length]
    omega
theorem k29 (H : Hp) : Ret Try.prog 29 [mkd [] []] H (B true) H := by
  have := c29 [] [] H (by decide) (by decide)
  simpa using this
theorem c5 (L n a b : Int) (H : Hp) : Ret Try.prog 5 [I L, I n, I a, I b] H (B true) H := by
  refine mk5 _ _ _ _ rfl (Nat.le_refl _) (.inl rfl) ?_
  simp only [vc5, real]
  repeat (with_reducible first | refine jn_go ?_ | refine jv_go ?_ | refine ud_go ?_ | refine tr_go ?_ | ((first | refine hd_Bin ?_ | refine hd_Ld ?_ | refine hd_FA ?_ | refine hd_Un ?_ | refine hd_Ext ?_ | refine hd_Bx ?_ | refine hd_St ?_ | refine hd_Ix ?_ | refine hd_Cond ?_ | refine hd_G ?_ | refine hd_If ?_ | refine hd_Cd ?_ | refine hd_Ok ?_ | refine hd_Len ?_ | refine hd_Slc ?_ | refine hd_Mk ?_ | refine hd_BS ?_ | refine hd_Bd ?_ | refine hd_App ?_ | refine hd_MM ?_ | refine hd_CallG ?_ | refine hd_Cpy ?_ | refine hd_NC ?_ | refine hd_Cv ?_ | refine hd_Pick ?_ | refine hd_Res ?_ | refine hd_NilS ?_ | refine hd_NilP ?_ | refine hd_IxA ?_ | refine hd_LenT ?_ | refine hd_Rn ?_ | refine hd_Rv ?_ | refine hd_CallA ?_ | refine hd_CalmA ?_); intro K Q hK hQ; simp only [nod_imm, Try.underlying3, e_lss, e_gF]; subst hK hQ) | refine rn_go ?_ | refine rv_go ?_)
  by_cases h1 : L < 1
  · have d1 := decide_eq_true h1
    repeat (with_reducible first | refine jn_go ?_ | refine jv_go ?_ | refine ud_go ?_ | refine tr_go ?_ | ((first | refine hd_Bin ?_ | refine hd_Ld ?_ | refine hd_FA ?_ | refine hd_Un ?_ | refine hd_Ext ?_ | refine hd_Bx ?_ | refine hd_St ?_ | refine hd_Ix ?_ | refine hd_Cond ?_ | refine hd_G ?_ | refine hd_If ?_ | refine hd_Cd ?_ | refine hd_Ok ?_ | refine hd_Len ?_ | refine hd_Slc ?_ | refine hd_Mk ?_ | refine hd_BS ?_ | refine hd_Bd ?_ | refine hd_App ?_ | refine hd_MM ?_ | refine hd_CallG ?_ | refine hd_Cpy ?_ | refine hd_NC ?_ | refine hd_Cv ?_ | refine hd_Pick ?_ | refine hd_Res ?_ | refine hd_NilS ?_ | refine hd_NilP ?_ | refine hd_IxA ?_ | refine hd_LenT ?_ | refine hd_Rn ?_ | refine hd_Rv ?_ | refine hd_CallA ?_ | refine hd_CalmA ?_); intro K Q hK hQ; simp only [d1, cond_true, nod_imm, e_gF, List.getD_cons_succ, List.getD_cons_zero, e_cond, if_true]; subst hK hQ) | refine rn_go ?_ | refine rv_go ?_)
    refine call_of (c18 _) ?_
    with_reducible first | refine rv_go ?_ | refine rn_go ?_ | skip
    first | exact end1 (fzI _) | exact end1A (fzI _)
  have d1 := decide_eq_false h1
  repeat (with_reducible first | refine jn_go ?_ | refine jv_go ?_ | refine ud_go ?_ | refine tr_go ?_ | ((first | refine hd_Bin ?_ | refine hd_Ld ?_ | refine hd_FA ?_ | refine hd_Un ?_ | refine hd_Ext ?_ | refine hd_Bx ?_ | refine hd_St ?_ | refine hd_Ix ?_ | refine hd_Cond ?_ | refine hd_G ?_ | refine hd_If ?_ | refine hd_Cd ?_ | refine hd_Ok ?_ | refine hd_Len ?_ | refine hd_Slc ?_ | refine hd_Mk ?_ | refine hd_BS ?_ | refine hd_Bd ?_ | refine hd_App ?_ | refine hd_MM ?_ | refine hd_CallG ?_ | refine hd_Cpy ?_ | refine hd_NC ?_ | refine hd_Cv ?_ | refine hd_Pick ?_ | refine hd_Res ?_ | refine hd_NilS ?_ | refine hd_NilP ?_ | refine hd_IxA ?_ | refine hd_LenT ?_ | refine hd_Rn ?_ | refine hd_Rv ?_ | refine hd_CallA ?_ | refine hd_CalmA ?_); intro K Q hK hQ; simp only [d1, cond_false, nod_imm, Try.underlying3, e_gtr, e_gF]; subst hK hQ) | refine rn_go ?_ | refine rv_go ?_)
  by_cases h2 : 100 < L
  · have d2 := decide_eq_true h2
    repeat (with_reducible first | refine jn_go ?_ | refine jv_go ?_ | refine ud_go ?_ | refine tr_go ?_ | ((first | refine hd_Bin ?_ | refine hd_Ld ?_ | refine hd_FA ?_ | refine hd_Un ?_ | refine hd_Ext ?_ | refine hd_Bx ?_ | refine hd_St ?_ | refine hd_Ix ?_ | refine hd_Cond ?_ | refine hd_G ?_ | refine hd_If ?_ | refine hd_Cd ?_ | refine hd_Ok ?_ | refine hd_Len ?_ | refine hd_Slc ?_ | refine hd_Mk ?_ | refine hd_BS ?_ | refine hd_Bd ?_ | refine hd_App ?_ | refine hd_MM ?_ | refine hd_CallG ?_ | refine hd_Cpy ?_ | refine hd_NC ?_ | refine hd_Cv ?_ | refine hd_Pick ?_ | refine hd_Res ?_ | refine hd_NilS ?_ | refine hd_NilP ?_ | refine hd_IxA ?_ | refine hd_LenT ?_ | refine hd_Rn ?_ | refine hd_Rv ?_ | refine hd_CallA ?_ | refine hd_CalmA ?_); intro K Q hK hQ; simp only [d2, cond_true, nod_imm, e_gF, List.getD_cons_succ, List.getD_cons_zero, e_cond, if_true]; subst hK hQ) | refine rn_go ?_ | refine rv_go ?_)
    refine call_of (c18 _) ?_
    with_reducible first | refine rv_go ?_ | refine rn_go ?_ | skip
    first | exact end1 (fzI _) | exact end1A (fzI _)
  have d2 := decide_eq_false h2
  repeat (with_reducible first | refine jn_go ?_ | refine jv_go ?_ | refine ud_go ?_ | refine tr_go ?_ | ((first | refine hd_Bin ?_ | refine hd_Ld ?_ | refine hd_FA ?_ | refine hd_Un ?_ | refine hd_Ext ?_ | refine hd_Bx ?_ | refine hd_St ?_ | refine hd_Ix ?_ | refine hd_Cond ?_ | refine hd_G ?_ | refine hd_If ?_ | refine hd_Cd ?_ | refine hd_Ok ?_ | refine hd_Len ?_ | refine hd_Slc ?_ | refine hd_Mk ?_ | refine hd_BS ?_ | refine hd_Bd ?_ | refine hd_App ?_ | refine hd_MM ?_ | refine hd_CallG ?_ | refine hd_Cpy ?_ | refine hd_NC ?_ | refine hd_Cv ?_ | refine hd_Pick ?_ | refine hd_Res ?_ | refine hd_NilS ?_ | refine hd_NilP ?_ | refine hd_IxA ?_ | refine hd_LenT ?_ | refine hd_Rn ?_ | refine hd_Rv ?_ | refine hd_CallA ?_ | refine hd_CalmA ?_); intro K Q hK hQ; simp only [d2, cond_false, nod_imm, Try.underlying3, e_lss, e_gF]; subst hK hQ) | refine rn_go ?_ | refine rv_go ?_)
  by_cases h3 : n < 1
  · have d3 := decide_eq_true h3
    repeat (with_reducible first | refine jn_go ?_ | refine jv_go ?_ | refine ud_go ?_ | refine tr_go ?_ | ((first | refine hd_Bin ?_ | refine hd_Ld ?_ | refine hd_FA ?_ | refine hd_Un ?_ | refine hd_Ext ?_ | refine hd_Bx ?_ | refine hd_St ?_ | refine hd_Ix ?_ | refine hd_Cond ?_ | refine hd_G ?_ | refine hd_If ?_ | refine hd_Cd ?_ | refine hd_Ok ?_ | refine hd_Len ?_ | refine hd_Slc ?_ | refine hd_Mk ?_ | refine hd_BS ?_ | refine hd_Bd ?_ | refine hd_App ?_ | refine hd_MM ?_ | refine hd_CallG ?_ | refine hd_Cpy ?_ | refine hd_NC ?_ | refine hd_Cv ?_ | refine hd_Pick ?_ | refine hd_Res ?_ | refine hd_NilS ?_ | refine hd_NilP ?_ | refine hd_IxA ?_ | refine hd_LenT ?_ | refine hd_Rn ?_ | refine hd_Rv ?_ | refine hd_CallA ?_ | refine hd_CalmA ?_); intro K Q hK hQ; simp only [d3, cond_true, nod_imm, e_gF, List.getD_cons_succ, List.getD_cons_zero, e_cond, if_true]; subst hK hQ) | refine rn_go ?_ | refine rv_go ?_)
    refine call_of (c18 _) ?_
    with_reducible first | refine rv_go ?_ | refine rn_go ?_ | skip
    first | exact end1 (fzI _) | exact end1A (fzI _)
  have d3 := decide_eq_false h3
  repeat (with_reducible first | refine jn_go ?_ | refine jv_go ?_ | refine ud_go ?_ | refine tr_go ?_ | ((first | refine hd_Bin ?_ | refine hd_Ld ?_ | refine hd_FA ?_ | refine hd_Un ?_ | refine hd_Ext ?_ | refine hd_Bx ?_ | refine hd_St ?_ | refine hd_Ix ?_ | refine hd_Cond ?_ | refine hd_G ?_ | refine hd_If ?_ | refine hd_Cd ?_ | refine hd_Ok ?_ | refine hd_Len ?_ | refine hd_Slc ?_ | refine hd_Mk ?_ | refine hd_BS ?_ | refine hd_Bd ?_ | refine hd_App ?_ | refine hd_MM ?_ | refine hd_CallG ?_ | refine hd_Cpy ?_ | refine hd_NC ?_ | refine hd_Cv ?_ | refine hd_Pick ?_ | refine hd_Res ?_ | refine hd_NilS ?_ | refine hd_NilP ?_ | refine hd_IxA ?_ | refine hd_LenT ?_ | refine hd_Rn ?_ | refine hd_Rv ?_ | refine hd_CallA ?_ | refine hd_CalmA ?_); intro K Q hK hQ; simp only [d3, cond_false, nod_imm, Try.underlying3, e_gtr, e_gF]; subst hK hQ) | refine rn_go ?_ | refine rv_go ?_)
  by_cases h4 : 1000 < n
  · have d4 := decide_eq_true h4
    repeat (with_reducible first | refine jn_go ?_ | refine jv_go ?_ | refine ud_go ?_ | refine tr_go ?_ | ((first | refine hd_Bin ?_ | refine hd_Ld ?_ | refine hd_FA ?_ | refine hd_Un ?_ | refine hd_Ext ?_ | refine hd_Bx ?_ | refine hd_St ?_ | refine hd_Ix ?_ | refine hd_Cond ?_ | refine hd_G ?_ | refine hd_If ?_ | refine hd_Cd ?_ | refine hd_Ok ?_ | refine hd_Len ?_ | refine hd_Slc ?_ | refine hd_Mk ?_ | refine hd_BS ?_ | refine hd_Bd ?_ | refine hd_App ?_ | refine hd_MM ?_ | refine hd_CallG ?_ | refine hd_Cpy ?_ | refine hd_NC ?_ | refine hd_Cv ?_ | refine hd_Pick ?_ | refine hd_Res ?_ | refine hd_NilS ?_ | refine hd_NilP ?_ | refine hd_IxA ?_ | refine hd_LenT ?_ | refine hd_Rn ?_ | refine hd_Rv ?_ | refine hd_CallA ?_ | refine hd_CalmA ?_); intro K Q hK hQ; simp only [d4, cond_true, List.getD_cons_succ, List.getD_cons_zero, nod_imm, e_cond, if_true]; subst hK hQ) | refine rn_go ?_ | refine rv_go ?_)
    refine call_of (c18 _) ?_
    with_reducible first | refine rv_go ?_ | refine rn_go ?_ | skip
    first | exact end1 (fzI _) | exact end1A (fzI _)
  have d4 := decide_eq_false h4
  repeat (with_reducible first | refine jn_go ?_ | refine jv_go ?_ | refine ud_go ?_ | refine tr_go ?_ | ((first | refine hd_Bin ?_ | refine hd_Ld ?_ | refine hd_FA ?_ | refine hd_Un ?_ | refine hd_Ext ?_ | refine hd_Bx ?_ | refine hd_St ?_ | refine hd_Ix ?_ | refine hd_Cond ?_ | refine hd_G ?_ | refine hd_If ?_ | refine hd_Cd ?_ | refine hd_Ok ?_ | refine hd_Len ?_ | refine hd_Slc ?_ | refine hd_Mk ?_ | refine hd_BS ?_ | refine hd_Bd ?_ | refine hd_App ?_ | refine hd_MM ?_ | refine hd_CallG ?_ | refine hd_Cpy ?_ | refine hd_NC ?_ | refine hd_Cv ?_ | refine hd_Pick ?_ | refine hd_Res ?_ | refine hd_NilS ?_ | refine hd_NilP ?_ | refine hd_IxA ?_ | refine hd_LenT ?_ | refine hd_Rn ?_ | refine hd_Rv ?_ | refine hd_CallA ?_ | refine hd_CalmA ?_); intro K Q hK hQ; simp only [d4, cond_false, nod_imm]; subst hK hQ) | refine rn_go ?_ | refine rv_go ?_)
  refine call_of (c26 a b _) ?_
  by_cases hr : ratioB a b = true
  · rw [hr]
    obtain ⟨k, rfl⟩ : ∃ k : Nat, n = k := ⟨n.toNat, by omega⟩
    have hr' := (ratioB_iff _ _).1 hr
    have hM := long_mkd (L := L) (k := k) (by omega) (by omega) (by omega) (by omega)
    have hE := long_ends (L := L) (k := k) (by omega) (by omega) (by omega) (by omega)
    have hb := mulL (L := L) (k := k) (by omega) (by omega) (by omega) (Nat.le_refl k)
    have hc : L * (k : Int) = k * L := Int.mul_comm _ _
    have n1 := nearV_bd (n := k) (a := a) (b := b) (by omega) (by omega) (by omega) (by omega) (by omega) (by omega) (by omega)
    have n2 := nearV_bd (n := L) (a := b) (b := a) (by omega) (by omega) (by omega) (by omega) (by omega) (by omega) (by omega)
    have s1 := chV_size hM hr hE.1 hE.2 (long_str (L := L) (k := k) (a := a) (b := b) (by omega) (by omega) (by omega) (by omega))
    have s2 := chV_size hM hr hE.1 hE.2 (long_tr (L := L) (k := k) (a := a) (b := b) (by omega) (by omega) (by omega) (by omega))
    have ml := hM.mlen
    have g1 := fun H => c27 (zers (L * k)) (marks L (k + 1)) a b H (by have := hM.len; omega) (by omega)
    have g2 := fun H => c28 (zers (L * k)) (marks L (k + 1)) a b H (by have := hM.len; omega) (by omega)
    repeat (first | (with_reducible first | refine jn_go ?_ | refine jv_go ?_ | refine ud_go ?_ | refine tr_go ?_ | ((first | refine hd_Bin ?_ | refine hd_Ld ?_ | refine hd_FA ?_ | refine hd_Un ?_ | refine hd_Ext ?_ | refine hd_Bx ?_ | refine hd_St ?_ | refine hd_Ix ?_ | refine hd_Cond ?_ | refine hd_G ?_ | refine hd_If ?_ | refine hd_Cd ?_ | refine hd_Ok ?_ | refine hd_Len ?_ | refine hd_Slc ?_ | refine hd_Mk ?_ | refine hd_BS ?_ | refine hd_Bd ?_ | refine hd_App ?_ | refine hd_MM ?_ | refine hd_CallG ?_ | refine hd_Cpy ?_ | refine hd_NC ?_ | refine hd_Cv ?_ | refine hd_Pick ?_ | refine hd_Res ?_ | refine hd_NilS ?_ | refine hd_NilP ?_ | refine hd_IxA ?_ | refine hd_LenT ?_ | refine hd_Rn ?_ | refine hd_Rv ?_ | refine hd_CallA ?_ | refine hd_CalmA ?_); intro K Q hK hQ; simp only [nod_imm, e_not, Bool.not_true, List.getD_cons_succ, List.getD_cons_zero, e_cond, Bool.false_eq_true, if_false, Try.underlying3, e_mul, cond_true, rep_I, nod_arr_full, e_bd1, okE_arr, Nat.zero_add, lv_cons, List.length_nil, Nat.reduceAdd, Nat.reduceLeDiff, cl_arr, spl_0, spl_n, e_bd0, true_and, e_bx, okE_agg, all_c, ck_arr, all_n, Bool.and_self, and_true, cl_agg, nod_ptr, own0_arr, e_sc0, stV_agg, List.map_cons, nodL_arr0, List.map_nil]; subst hK hQ) | refine rn_go ?_ | refine rv_go ?_) | refine And.intro (by first | (unfold R64; omega) | omega | assumption | (simp only [List.length_append, List.length_cons, List.length_nil, List.length_map, List.length_range]; omega)) ?_)
    refine loop_of (fun i : Nat => i ≤ k + 1) (fun i => [I L, I k, I a, I b, .ptr H.length 0, I i]) (fun i => H ++ [Blk.cells [ints (zers (L * k)) .full, ints (marks L i) (oF i)]]) (fun i => k + 1 - i) 0 (by omega) rfl rfl ?_
    intro i hi
    by_cases hik : (i : Int) ≤ k
    · have e1 := decide_eq_true hik
      have mb := mulL (L := L) (k := k) (i := i) (by omega) (by omega) (by omega) (by omega)
      have ml := marks_len L i
      repeat (first | (with_reducible first | refine jn_go ?_ | refine jv_go ?_ | refine ud_go ?_ | refine tr_go ?_ | ((first | refine hd_Bin ?_ | refine hd_Ld ?_ | refine hd_FA ?_ | refine hd_Un ?_ | refine hd_Ext ?_ | refine hd_Bx ?_ | refine hd_St ?_ | refine hd_Ix ?_ | refine hd_Cond ?_ | refine hd_G ?_ | refine hd_If ?_ | refine hd_Cd ?_ | refine hd_Ok ?_ | refine hd_Len ?_ | refine hd_Slc ?_ | refine hd_Mk ?_ | refine hd_BS ?_ | refine hd_Bd ?_ | refine hd_App ?_ | refine hd_MM ?_ | refine hd_CallG ?_ | refine hd_Cpy ?_ | refine hd_NC ?_ | refine hd_Cv ?_ | refine hd_Pick ?_ | refine hd_Res ?_ | refine hd_NilS ?_ | refine hd_NilP ?_ | refine hd_IxA ?_ | refine hd_LenT ?_ | refine hd_Rn ?_ | refine hd_Rv ?_ | refine hd_CallA ?_ | refine hd_CalmA ?_); intro K Q hK hQ; simp only [List.getD_cons_succ, List.getD_cons_zero, nod_imm, Try.underlying3, e_leq, e1, e_cond, if_true, nod_ptr, e_fa, Nat.zero_add, e_lM0, Nat.reduceAdd, lv_cons, List.length_nil, Nat.reduceLeDiff, nodL_ints, vs_s, vs_0, true_and, e_mul, bs1, nod_ints, nd_full, e_app, oF_ap, e_sc0, stV_ints, okE_ints, cl_ints, spl_s, spl_0, spl_n, e_add]; subst hK hQ) | refine rn_go ?_ | refine rv_go ?_) | refine And.intro (by first | (unfold R64; omega) | omega | assumption | (simp only [List.length_append, List.length_cons, List.length_nil, List.length_map, List.length_range]; omega)) ?_)
      refine ⟨i + 1, by omega, rfl, ?_, by omega⟩
      rw [marks_succ]
      rfl
    · have e1 := decide_eq_false hik
      have : i = k + 1 := by omega
      subst this
      have e2 : max 1 ((2 * (k : Int) * a + b).tdiv (2 * b)) = nearV k a b := rfl
      have e3 : max 1 ((2 * L * b + a).tdiv (2 * a)) = nearV L b a := rfl
      have m1 := mul_bd (j := (2 * k : Int)) (m := a) (J := 2000) (M := 1000) (by omega) (by omega) (by omega) (by omega)
      have m2 := mul_bd (j := 2 * L) (m := b) (J := 200) (M := 1000) (by omega) (by omega) (by omega) (by omega)
      have q1 := tdiv_bd (x := 2 * k * a + b) (y := 2 * b) (by omega) (by omega)
      have q2 := tdiv_bd (x := 2 * L * b + a) (y := 2 * a) (by omega) (by omega)
      have m3 := mul_bd (j := L) (m := nearV k a b) (J := 100) (M := 16001) (by omega) (by omega) (by omega) (by omega)
      have m4 := mul_bd (j := k) (m := nearV L b a) (J := 1000) (M := 1601) (by omega) (by omega) (by omega) (by omega)
      repeat (first | (with_reducible first | refine jn_go ?_ | refine jv_go ?_ | refine ud_go ?_ | refine tr_go ?_ | ((first | refine hd_Bin ?_ | refine hd_Ld ?_ | refine hd_FA ?_ | refine hd_Un ?_ | refine hd_Ext ?_ | refine hd_Bx ?_ | refine hd_St ?_ | refine hd_Ix ?_ | refine hd_Cond ?_ | refine hd_G ?_ | refine hd_If ?_ | refine hd_Cd ?_ | refine hd_Ok ?_ | refine hd_Len ?_ | refine hd_Slc ?_ | refine hd_Mk ?_ | refine hd_BS ?_ | refine hd_Bd ?_ | refine hd_App ?_ | refine hd_MM ?_ | refine hd_CallG ?_ | refine hd_Cpy ?_ | refine hd_NC ?_ | refine hd_Cv ?_ | refine hd_Pick ?_ | refine hd_Res ?_ | refine hd_NilS ?_ | refine hd_NilP ?_ | refine hd_IxA ?_ | refine hd_LenT ?_ | refine hd_Rn ?_ | refine hd_Rv ?_ | refine hd_CallA ?_ | refine hd_CalmA ?_); intro K Q hK hQ; simp only [List.getD_cons_succ, List.getD_cons_zero, nod_imm, Try.underlying3, e_leq, e1, e_cond, Bool.false_eq_true, if_false, nod_ptr, oF_succ, e_lA0, Nat.zero_add, lv_cons, List.length_nil, Nat.reduceAdd, Nat.reduceLeDiff, dr_0, tk_s, tk_0, nod_agg, List.map_cons, nodL_ints, nd_full, nd_own, List.map_nil, true_and, nd_no]; subst hK hQ) | refine rn_go ?_ | refine rv_go ?_) | refine And.intro (by first | (unfold R64; omega) | omega | assumption | (simp only [List.length_append, List.length_cons, List.length_nil, List.length_map, List.length_range]; omega)) ?_)
      rcases s1 with ⟨t1, s1⟩ | ⟨t1, x1, y1, z1, s1⟩
      · rw [s1] at g1
        have D1 := decide_eq_true t1
        have D2 := decide_eq_false (Int.not_le.2 t1)
        refine call_wk (g1 _) (.cons (.mix [((zers (L * k)).map I, true), ((marks L (k + 1)).map I, false)]) (.cons (.refl _) (.cons (.refl _) .nil))) ?_
        repeat (first | (with_reducible first | refine jn_go ?_ | refine jv_go ?_ | refine ud_go ?_ | refine tr_go ?_ | ((first | refine hd_Bin ?_ | refine hd_Ld ?_ | refine hd_FA ?_ | refine hd_Un ?_ | refine hd_Ext ?_ | refine hd_Bx ?_ | refine hd_St ?_ | refine hd_Ix ?_ | refine hd_Cond ?_ | refine hd_G ?_ | refine hd_If ?_ | refine hd_Cd ?_ | refine hd_Ok ?_ | refine hd_Len ?_ | refine hd_Slc ?_ | refine hd_Mk ?_ | refine hd_BS ?_ | refine hd_Bd ?_ | refine hd_App ?_ | refine hd_MM ?_ | refine hd_CallG ?_ | refine hd_Cpy ?_ | refine hd_NC ?_ | refine hd_Cv ?_ | refine hd_Pick ?_ | refine hd_Res ?_ | refine hd_NilS ?_ | refine hd_NilP ?_ | refine hd_IxA ?_ | refine hd_LenT ?_ | refine hd_Rn ?_ | refine hd_Rv ?_ | refine hd_CallA ?_ | refine hd_CalmA ?_); intro K Q hK hQ; simp only [nod_tup, List.map_cons, nod2_agg, nodL_ints, nd_no, List.map_nil, nod2_imm, e_x20, e_x21, e_bx, okE_agg, lv_cons, List.length_nil, Nat.zero_add, Nat.reduceAdd, all_c, ck_arr, all_n, Bool.and_self, and_true, hp_len, hp_len_cons, cl_agg, hp_assoc, hp_cons, hp_nil, true_and, nod_ptr, e_sc1, Nat.reduceLeDiff, stV_agg, ck_ints, spl_0, spl_n, List.getD_cons_zero, List.getD_cons_succ, e_lA0, dr_0, tk_s, tk_0, nod_agg, nd_full, nd_own, nod_imm]; subst hK hQ) | refine rn_go ?_ | refine rv_go ?_) | refine And.intro (by first | (unfold R64; omega) | omega | assumption | (simp only [List.length_append, List.length_cons, List.length_nil, List.length_map, List.length_range]; omega)) ?_)
        rcases s2 with ⟨t2, s2⟩ | ⟨t2, x2, y2, z2, s2⟩
        · rw [s2] at g2
          have D3 := decide_eq_true t2
          refine call_wk (g2 _) (.cons (.mix [((zers (L * k)).map I, true), ((marks L (k + 1)).map I, false)]) (.cons (.refl _) (.cons (.refl _) .nil))) ?_
          repeat (first | (with_reducible first | refine jn_go ?_ | refine jv_go ?_ | refine ud_go ?_ | refine tr_go ?_ | ((first | refine hd_Bin ?_ | refine hd_Ld ?_ | refine hd_FA ?_ | refine hd_Un ?_ | refine hd_Ext ?_ | refine hd_Bx ?_ | refine hd_St ?_ | refine hd_Ix ?_ | refine hd_Cond ?_ | refine hd_G ?_ | refine hd_If ?_ | refine hd_Cd ?_ | refine hd_Ok ?_ | refine hd_Len ?_ | refine hd_Slc ?_ | refine hd_Mk ?_ | refine hd_BS ?_ | refine hd_Bd ?_ | refine hd_App ?_ | refine hd_MM ?_ | refine hd_CallG ?_ | refine hd_Cpy ?_ | refine hd_NC ?_ | refine hd_Cv ?_ | refine hd_Pick ?_ | refine hd_Res ?_ | refine hd_NilS ?_ | refine hd_NilP ?_ | refine hd_IxA ?_ | refine hd_LenT ?_ | refine hd_Rn ?_ | refine hd_Rv ?_ | refine hd_CallA ?_ | refine hd_CalmA ?_); intro K Q hK hQ; simp only [nod_tup, List.map_cons, nod2_agg, nodL_ints, nd_no, List.map_nil, nod2_imm, e_x20, e_x21, e_bx, okE_agg, lv_cons, List.length_nil, Nat.zero_add, Nat.reduceAdd, all_c, ck_arr, all_n, Bool.and_self, and_true, hp_len, hp_len_cons, cl_agg, hp_assoc, hp_cons, hp_nil, true_and, nod_ptr, e_sc2, Nat.reduceLeDiff, stV_agg, ck_ints, spl_0, spl_n, List.getD_cons_succ, List.getD_cons_zero, nod_imm, Try.underlying3, e_mul, e_add, e_quo, ne_eq, e_max2, e2, e3, e_gtr, D1, e_gT, cond_true, Try.underlying25, e_neq, decide_true, Bool.not_true, e_gF, cond_false, e_lA1, dr_0, tk_s, tk_0, nod_agg]; subst hK hQ) | refine rn_go ?_ | refine rv_go ?_) | refine And.intro (by first | (unfold R64; omega) | omega | assumption | (simp only [List.length_append, List.length_cons, List.length_nil, List.length_map, List.length_range]; omega)) ?_)
          refine call_of (k29 _) ?_
          repeat (first | (with_reducible first | refine jn_go ?_ | refine jv_go ?_ | refine ud_go ?_ | refine tr_go ?_ | ((first | refine hd_Bin ?_ | refine hd_Ld ?_ | refine hd_FA ?_ | refine hd_Un ?_ | refine hd_Ext ?_ | refine hd_Bx ?_ | refine hd_St ?_ | refine hd_Ix ?_ | refine hd_Cond ?_ | refine hd_G ?_ | refine hd_If ?_ | refine hd_Cd ?_ | refine hd_Ok ?_ | refine hd_Len ?_ | refine hd_Slc ?_ | refine hd_Mk ?_ | refine hd_BS ?_ | refine hd_Bd ?_ | refine hd_App ?_ | refine hd_MM ?_ | refine hd_CallG ?_ | refine hd_Cpy ?_ | refine hd_NC ?_ | refine hd_Cv ?_ | refine hd_Pick ?_ | refine hd_Res ?_ | refine hd_NilS ?_ | refine hd_NilP ?_ | refine hd_IxA ?_ | refine hd_LenT ?_ | refine hd_Rn ?_ | refine hd_Rv ?_ | refine hd_CallA ?_ | refine hd_CalmA ?_); intro K Q hK hQ; simp only [nod_imm, e_not, Bool.not_true, e_gF, cond_false, List.getD_cons_succ, List.getD_cons_zero, Try.underlying3, e_leq, D2, e_gT, e_cond, Bool.false_eq_true, if_false, e_gtr, D3, if_true, Try.underlying25, e_eql, decide_true, cond_true, nod_ptr, e_lA2, Nat.zero_add, lv_cons, List.length_nil, Nat.reduceAdd, Nat.reduceLeDiff, dr_0, tk_s, tk_0, nod_agg, List.map_cons, nodL_ints, nd_no, List.map_nil, true_and]; subst hK hQ) | refine rn_go ?_ | refine rv_go ?_) | refine And.intro (by first | (unfold R64; omega) | omega | assumption | (simp only [List.length_append, List.length_cons, List.length_nil, List.length_map, List.length_range]; omega)) ?_)
          refine call_of (k29 _) ?_
          repeat (first | (with_reducible first | refine jn_go ?_ | refine jv_go ?_ | refine ud_go ?_ | refine tr_go ?_ | ((first | refine hd_Bin ?_ | refine hd_Ld ?_ | refine hd_FA ?_ | refine hd_Un ?_ | refine hd_Ext ?_ | refine hd_Bx ?_ | refine hd_St ?_ | refine hd_Ix ?_ | refine hd_Cond ?_ | refine hd_G ?_ | refine hd_If ?_ | refine hd_Cd ?_ | refine hd_Ok ?_ | refine hd_Len ?_ | refine hd_Slc ?_ | refine hd_Mk ?_ | refine hd_BS ?_ | refine hd_Bd ?_ | refine hd_App ?_ | refine hd_MM ?_ | refine hd_CallG ?_ | refine hd_Cpy ?_ | refine hd_NC ?_ | refine hd_Cv ?_ | refine hd_Pick ?_ | refine hd_Res ?_ | refine hd_NilS ?_ | refine hd_NilP ?_ | refine hd_IxA ?_ | refine hd_LenT ?_ | refine hd_Rn ?_ | refine hd_Rv ?_ | refine hd_CallA ?_ | refine hd_CalmA ?_); intro K Q hK hQ; simp only [nod_imm, e_gT, cond_true]; subst hK hQ) | refine rn_go ?_ | refine rv_go ?_) | refine And.intro (by first | (unfold R64; omega) | omega | assumption | (simp only [List.length_append, List.length_cons, List.length_nil, List.length_map, List.length_range]; omega)) ?_)
          refine call_of (c18 _) ?_
          with_reducible first | refine rv_go ?_ | refine rn_go ?_ | skip
          first | exact end1 (fzI _) | exact end1A (fzI _)
        · rw [s2] at g2
          have D3 := decide_eq_false (Int.not_lt.2 t2)
          refine call_wk (g2 _) (.cons (.mix [((zers (L * k)).map I, true), ((marks L (k + 1)).map I, false)]) (.cons (.refl _) (.cons (.refl _) .nil))) ?_
          repeat (first | (with_reducible first | refine jn_go ?_ | refine jv_go ?_ | refine ud_go ?_ | refine tr_go ?_ | ((first | refine hd_Bin ?_ | refine hd_Ld ?_ | refine hd_FA ?_ | refine hd_Un ?_ | refine hd_Ext ?_ | refine hd_Bx ?_ | refine hd_St ?_ | refine hd_Ix ?_ | refine hd_Cond ?_ | refine hd_G ?_ | refine hd_If ?_ | refine hd_Cd ?_ | refine hd_Ok ?_ | refine hd_Len ?_ | refine hd_Slc ?_ | refine hd_Mk ?_ | refine hd_BS ?_ | refine hd_Bd ?_ | refine hd_App ?_ | refine hd_MM ?_ | refine hd_CallG ?_ | refine hd_Cpy ?_ | refine hd_NC ?_ | refine hd_Cv ?_ | refine hd_Pick ?_ | refine hd_Res ?_ | refine hd_NilS ?_ | refine hd_NilP ?_ | refine hd_IxA ?_ | refine hd_LenT ?_ | refine hd_Rn ?_ | refine hd_Rv ?_ | refine hd_CallA ?_ | refine hd_CalmA ?_); intro K Q hK hQ; simp only [nod_tup, List.map_cons, nod2_agg, nodL_ints, nd_no, List.map_nil, nod2_imm, e_x20, e_x21, e_bx, okE_agg, lv_cons, List.length_nil, Nat.zero_add, Nat.reduceAdd, all_c, ck_arr, all_n, Bool.and_self, and_true, hp_len, hp_len_cons, cl_agg, hp_assoc, hp_cons, hp_nil, true_and, nod_ptr, e_sc2, Nat.reduceLeDiff, stV_agg, ck_ints, spl_0, spl_n, List.getD_cons_succ, List.getD_cons_zero, nod_imm, Try.underlying3, e_mul, e_add, e_quo, ne_eq, e_max2, e2, e3, e_gtr, D1, e_gT, cond_true, Try.underlying25, e_neq, decide_true, Bool.not_true, e_gF, cond_false, e_lA1, dr_0, tk_s, tk_0, nod_agg]; subst hK hQ) | refine rn_go ?_ | refine rv_go ?_) | refine And.intro (by first | (unfold R64; omega) | omega | assumption | (simp only [List.length_append, List.length_cons, List.length_nil, List.length_map, List.length_range]; omega)) ?_)
          refine call_of (k29 _) ?_
          repeat (first | (with_reducible first | refine jn_go ?_ | refine jv_go ?_ | refine ud_go ?_ | refine tr_go ?_ | ((first | refine hd_Bin ?_ | refine hd_Ld ?_ | refine hd_FA ?_ | refine hd_Un ?_ | refine hd_Ext ?_ | refine hd_Bx ?_ | refine hd_St ?_ | refine hd_Ix ?_ | refine hd_Cond ?_ | refine hd_G ?_ | refine hd_If ?_ | refine hd_Cd ?_ | refine hd_Ok ?_ | refine hd_Len ?_ | refine hd_Slc ?_ | refine hd_Mk ?_ | refine hd_BS ?_ | refine hd_Bd ?_ | refine hd_App ?_ | refine hd_MM ?_ | refine hd_CallG ?_ | refine hd_Cpy ?_ | refine hd_NC ?_ | refine hd_Cv ?_ | refine hd_Pick ?_ | refine hd_Res ?_ | refine hd_NilS ?_ | refine hd_NilP ?_ | refine hd_IxA ?_ | refine hd_LenT ?_ | refine hd_Rn ?_ | refine hd_Rv ?_ | refine hd_CallA ?_ | refine hd_CalmA ?_); intro K Q hK hQ; simp only [nod_imm, e_not, Bool.not_true, e_gF, cond_false, List.getD_cons_succ, List.getD_cons_zero, Try.underlying3, e_leq, D2, e_gT, e_cond, Bool.false_eq_true, if_false, e_gtr, D3, Try.underlying25, e_eql, decide_true, cond_true, nod_ptr, e_fa, Nat.add_zero, e_lc2, Nat.zero_add, lv_cons, List.length_nil, Nat.reduceAdd, Nat.reduceLeDiff, nod_ints, nd_no, true_and, e_len, z2]; subst hK hQ) | refine rn_go ?_ | refine rv_go ?_) | refine And.intro (by first | (unfold R64; omega) | omega | assumption | (simp only [List.length_append, List.length_cons, List.length_nil, List.length_map, List.length_range]; omega)) ?_)
          refine call_of (c18 _) ?_
          with_reducible first | refine rv_go ?_ | refine rn_go ?_ | skip
          first | exact end1 (fzI _) | exact end1A (fzI _)
      · rw [s1] at g1
        have D1 := decide_eq_false (Int.not_lt.2 t1)
        have D2 := decide_eq_true t1
        refine call_wk (g1 _) (.cons (.mix [((zers (L * k)).map I, true), ((marks L (k + 1)).map I, false)]) (.cons (.refl _) (.cons (.refl _) .nil))) ?_
        repeat (first | (with_reducible first | refine jn_go ?_ | refine jv_go ?_ | refine ud_go ?_ | refine tr_go ?_ | ((first | refine hd_Bin ?_ | refine hd_Ld ?_ | refine hd_FA ?_ | refine hd_Un ?_ | refine hd_Ext ?_ | refine hd_Bx ?_ | refine hd_St ?_ | refine hd_Ix ?_ | refine hd_Cond ?_ | refine hd_G ?_ | refine hd_If ?_ | refine hd_Cd ?_ | refine hd_Ok ?_ | refine hd_Len ?_ | refine hd_Slc ?_ | refine hd_Mk ?_ | refine hd_BS ?_ | refine hd_Bd ?_ | refine hd_App ?_ | refine hd_MM ?_ | refine hd_CallG ?_ | refine hd_Cpy ?_ | refine hd_NC ?_ | refine hd_Cv ?_ | refine hd_Pick ?_ | refine hd_Res ?_ | refine hd_NilS ?_ | refine hd_NilP ?_ | refine hd_IxA ?_ | refine hd_LenT ?_ | refine hd_Rn ?_ | refine hd_Rv ?_ | refine hd_CallA ?_ | refine hd_CalmA ?_); intro K Q hK hQ; simp only [nod_tup, List.map_cons, nod2_agg, nodL_ints, nd_no, List.map_nil, nod2_imm, e_x20, e_x21, e_bx, okE_agg, lv_cons, List.length_nil, Nat.zero_add, Nat.reduceAdd, all_c, ck_arr, all_n, Bool.and_self, and_true, hp_len, hp_len_cons, cl_agg, hp_assoc, hp_cons, hp_nil, true_and, nod_ptr, e_sc1, Nat.reduceLeDiff, stV_agg, ck_ints, spl_0, spl_n, List.getD_cons_zero, List.getD_cons_succ, e_lA0, dr_0, tk_s, tk_0, nod_agg, nd_full, nd_own, nod_imm]; subst hK hQ) | refine rn_go ?_ | refine rv_go ?_) | refine And.intro (by first | (unfold R64; omega) | omega | assumption | (simp only [List.length_append, List.length_cons, List.length_nil, List.length_map, List.length_range]; omega)) ?_)
        rcases s2 with ⟨t2, s2⟩ | ⟨t2, x2, y2, z2, s2⟩
        · rw [s2] at g2
          have D3 := decide_eq_true t2
          refine call_wk (g2 _) (.cons (.mix [((zers (L * k)).map I, true), ((marks L (k + 1)).map I, false)]) (.cons (.refl _) (.cons (.refl _) .nil))) ?_
          repeat (first | (with_reducible first | refine jn_go ?_ | refine jv_go ?_ | refine ud_go ?_ | refine tr_go ?_ | ((first | refine hd_Bin ?_ | refine hd_Ld ?_ | refine hd_FA ?_ | refine hd_Un ?_ | refine hd_Ext ?_ | refine hd_Bx ?_ | refine hd_St ?_ | refine hd_Ix ?_ | refine hd_Cond ?_ | refine hd_G ?_ | refine hd_If ?_ | refine hd_Cd ?_ | refine hd_Ok ?_ | refine hd_Len ?_ | refine hd_Slc ?_ | refine hd_Mk ?_ | refine hd_BS ?_ | refine hd_Bd ?_ | refine hd_App ?_ | refine hd_MM ?_ | refine hd_CallG ?_ | refine hd_Cpy ?_ | refine hd_NC ?_ | refine hd_Cv ?_ | refine hd_Pick ?_ | refine hd_Res ?_ | refine hd_NilS ?_ | refine hd_NilP ?_ | refine hd_IxA ?_ | refine hd_LenT ?_ | refine hd_Rn ?_ | refine hd_Rv ?_ | refine hd_CallA ?_ | refine hd_CalmA ?_); intro K Q hK hQ; simp only [nod_tup, List.map_cons, nod2_agg, nodL_ints, nd_no, List.map_nil, nod2_imm, e_x20, e_x21, e_bx, okE_agg, lv_cons, List.length_nil, Nat.zero_add, Nat.reduceAdd, all_c, ck_arr, all_n, Bool.and_self, and_true, hp_len, hp_len_cons, cl_agg, hp_assoc, hp_cons, hp_nil, true_and, nod_ptr, e_sc2, Nat.reduceLeDiff, stV_agg, ck_ints, spl_0, spl_n, List.getD_cons_succ, List.getD_cons_zero, nod_imm, Try.underlying3, e_mul, e_add, e_quo, ne_eq, e_max2, e2, e3, e_gtr, D1, e_gT, cond_false, e_gF, e_leq, D2, cond_true, Try.underlying25, e_neq, decide_true, Bool.not_true, e_fa, Nat.add_zero, e_lc1, nod_ints, e_len, z1, e_cond, Bool.false_eq_true, if_false, D3, if_true, e_eql, e_lA2, dr_0, tk_s, tk_0, nod_agg]; subst hK hQ) | refine rn_go ?_ | refine rv_go ?_) | refine And.intro (by first | (unfold R64; omega) | omega | assumption | (simp only [List.length_append, List.length_cons, List.length_nil, List.length_map, List.length_range]; omega)) ?_)
          refine call_of (k29 _) ?_
          repeat (first | (with_reducible first | refine jn_go ?_ | refine jv_go ?_ | refine ud_go ?_ | refine tr_go ?_ | ((first | refine hd_Bin ?_ | refine hd_Ld ?_ | refine hd_FA ?_ | refine hd_Un ?_ | refine hd_Ext ?_ | refine hd_Bx ?_ | refine hd_St ?_ | refine hd_Ix ?_ | refine hd_Cond ?_ | refine hd_G ?_ | refine hd_If ?_ | refine hd_Cd ?_ | refine hd_Ok ?_ | refine hd_Len ?_ | refine hd_Slc ?_ | refine hd_Mk ?_ | refine hd_BS ?_ | refine hd_Bd ?_ | refine hd_App ?_ | refine hd_MM ?_ | refine hd_CallG ?_ | refine hd_Cpy ?_ | refine hd_NC ?_ | refine hd_Cv ?_ | refine hd_Pick ?_ | refine hd_Res ?_ | refine hd_NilS ?_ | refine hd_NilP ?_ | refine hd_IxA ?_ | refine hd_LenT ?_ | refine hd_Rn ?_ | refine hd_Rv ?_ | refine hd_CallA ?_ | refine hd_CalmA ?_); intro K Q hK hQ; simp only [nod_imm, e_gT, cond_true]; subst hK hQ) | refine rn_go ?_ | refine rv_go ?_) | refine And.intro (by first | (unfold R64; omega) | omega | assumption | (simp only [List.length_append, List.length_cons, List.length_nil, List.length_map, List.length_range]; omega)) ?_)
          refine call_of (c18 _) ?_
          with_reducible first | refine rv_go ?_ | refine rn_go ?_ | skip
          first | exact end1 (fzI _) | exact end1A (fzI _)
        · rw [s2] at g2
          have D3 := decide_eq_false (Int.not_lt.2 t2)
          refine call_wk (g2 _) (.cons (.mix [((zers (L * k)).map I, true), ((marks L (k + 1)).map I, false)]) (.cons (.refl _) (.cons (.refl _) .nil))) ?_
          repeat (first | (with_reducible first | refine jn_go ?_ | refine jv_go ?_ | refine ud_go ?_ | refine tr_go ?_ | ((first | refine hd_Bin ?_ | refine hd_Ld ?_ | refine hd_FA ?_ | refine hd_Un ?_ | refine hd_Ext ?_ | refine hd_Bx ?_ | refine hd_St ?_ | refine hd_Ix ?_ | refine hd_Cond ?_ | refine hd_G ?_ | refine hd_If ?_ | refine hd_Cd ?_ | refine hd_Ok ?_ | refine hd_Len ?_ | refine hd_Slc ?_ | refine hd_Mk ?_ | refine hd_BS ?_ | refine hd_Bd ?_ | refine hd_App ?_ | refine hd_MM ?_ | refine hd_CallG ?_ | refine hd_Cpy ?_ | refine hd_NC ?_ | refine hd_Cv ?_ | refine hd_Pick ?_ | refine hd_Res ?_ | refine hd_NilS ?_ | refine hd_NilP ?_ | refine hd_IxA ?_ | refine hd_LenT ?_ | refine hd_Rn ?_ | refine hd_Rv ?_ | refine hd_CallA ?_ | refine hd_CalmA ?_); intro K Q hK hQ; simp only [nod_tup, List.map_cons, nod2_agg, nodL_ints, nd_no, List.map_nil, nod2_imm, e_x20, e_x21, e_bx, okE_agg, lv_cons, List.length_nil, Nat.zero_add, Nat.reduceAdd, all_c, ck_arr, all_n, Bool.and_self, and_true, hp_len, hp_len_cons, cl_agg, hp_assoc, hp_cons, hp_nil, true_and, nod_ptr, e_sc2, Nat.reduceLeDiff, stV_agg, ck_ints, spl_0, spl_n, List.getD_cons_succ, List.getD_cons_zero, nod_imm, Try.underlying3, e_mul, e_add, e_quo, ne_eq, e_max2, e2, e3, e_gtr, D1, e_gT, cond_false, e_gF, e_leq, D2, cond_true, Try.underlying25, e_neq, decide_true, Bool.not_true, e_fa, Nat.add_zero, e_lc1, nod_ints, e_len, z1, e_cond, Bool.false_eq_true, if_false, D3, e_eql, e_lc2, z2]; subst hK hQ) | refine rn_go ?_ | refine rv_go ?_) | refine And.intro (by first | (unfold R64; omega) | omega | assumption | (simp only [List.length_append, List.length_cons, List.length_nil, List.length_map, List.length_range]; omega)) ?_)
          refine call_of (c18 _) ?_
          with_reducible first | refine rv_go ?_ | refine rn_go ?_ | skip
          first | exact end1 (fzI _) | exact end1A (fzI _)
  · have hr : ratioB a b = false := by simpa using hr
    rw [hr]
    repeat (with_reducible first | refine jn_go ?_ | refine jv_go ?_ | refine ud_go ?_ | refine tr_go ?_ | ((first | refine hd_Bin ?_ | refine hd_Ld ?_ | refine hd_FA ?_ | refine hd_Un ?_ | refine hd_Ext ?_ | refine hd_Bx ?_ | refine hd_St ?_ | refine hd_Ix ?_ | refine hd_Cond ?_ | refine hd_G ?_ | refine hd_If ?_ | refine hd_Cd ?_ | refine hd_Ok ?_ | refine hd_Len ?_ | refine hd_Slc ?_ | refine hd_Mk ?_ | refine hd_BS ?_ | refine hd_Bd ?_ | refine hd_App ?_ | refine hd_MM ?_ | refine hd_CallG ?_ | refine hd_Cpy ?_ | refine hd_NC ?_ | refine hd_Cv ?_ | refine hd_Pick ?_ | refine hd_Res ?_ | refine hd_NilS ?_ | refine hd_NilP ?_ | refine hd_IxA ?_ | refine hd_LenT ?_ | refine hd_Rn ?_ | refine hd_Rv ?_ | refine hd_CallA ?_ | refine hd_CalmA ?_); intro K Q hK hQ; simp only [nod_imm, e_not, Bool.not_false, List.getD_cons_succ, List.getD_cons_zero, e_cond, if_true]; subst hK hQ) | refine rn_go ?_ | refine rv_go ?_)
    refine call_of (c18 _) ?_
    with_reducible first | refine rv_go ?_ | refine rn_go ?_ | skip
    first | exact end1 (fzI _) | exact end1A (fzI _)
end Go.Proofs.Ytehjfjdknllmhaa
