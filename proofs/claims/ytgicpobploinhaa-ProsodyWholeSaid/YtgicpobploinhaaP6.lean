/- The machinery of the proof, part 6: an abstract machine over list values, proved sound against the model, and the contracts of the functions that the law reaches. No condition. -/
import Derived.Test.YtgicpobploinhaaP5

set_option linter.unusedVariables false
set_option linter.unusedSimpArgs false
set_option linter.unnecessarySimpa false
set_option maxRecDepth 20000
set_option maxHeartbeats 2000000
namespace Go.Proofs.Ytgicpobploinhaa
open Go Go.Ab Go.Proofs
attribute [local congr] g_bin g_nilS g_nilP g_un g_ext g_bx g_fa g_ld g_st g_ix g_ixA g_slc g_mk g_bs g_bd g_nc g_cv g_len g_lenT g_app g_appB g_cpy g_mm g_call g_callG g_calm g_calmG g_range g_res g_pick g_cond g_loop g_Jv g_eqS g_eqP g_fd g_ixT g_ta g_lkp g_upd g_mkM g_appS g_inv g_callE g_callEG g_invE g_zr g_wr
theorem c17 (s : Sou) (H : Hp) (sm : SmS s) : Ret Try.prog 17 [souV s] H (B (okS s)) H := by
 refine mk17 _ rfl (Nat.le_refl _) (.inl rfl) ?_
 simp only [vc17, real]
 have s1 := sm.so
 have s2 := sm.on
 repeat (first | (with_reducible first | refine Ju.go ?_ | (refine Hd.go ?_; intro K Q hK hQ; simp only [nod_agg, List.map_cons, nodL_ints, nd_no, nodL_imm, nodL_arr, List.map_nil, e_bxI, okE_agg, lv_cons, List.length_nil, Nat.zero_add, Nat.reduceAdd, all_c, ck_ints, ck_I, ck_arr, all_n, Bool.and_self, and_true, true_and, nod_cptr, e_fac, Nat.reduceLeDiff, List.getD_cons_zero, e_ldci, nod_ints, e_len, nod_imm, Try.underlying3, e_lss, e_gtr, e_gF, j_or', j_one, List.getD_cons_succ, e_ldc, e_ldcV, nod_arr, e_lenA, List.length_map, e_cond]; subst hK hQ) | refine Jr.go ?_) | refine sd ?_)
 have e1 : (decide ((s.so.length : Int) < 1) || decide (200 < (s.so.length : Int)) || decide (s.pk < 0) || decide (9 < s.pk) || decide (300 < (s.on.length : Int))) = !okHs s := by
  rw [Bool.eq_iff_iff]
  simp only [okHs, inB, Bool.not_eq_true', Bool.and_eq_false_iff, Bool.or_eq_true, decide_eq_true_eq, decide_eq_false_iff_not]
  omega
 rw [e1]
 have eS : okS s = ((okHs s && s.so.all fun x => inB x 0 9) && s.on.all (okOn s)) := rfl
 rw [eS]
 cases okHs s
 ·repeat (first | (with_reducible first | refine Ju.go ?_ | (refine Hd.go ?_; intro K Q hK hQ; simp only [Bool.not_false, if_true]; subst hK hQ) | refine Jr.go ?_) | refine sd ?_)
  exact end1 (fzI _)
 ·repeat (first | (with_reducible first | refine Ju.go ?_ | (refine Hd.go ?_; intro K Q hK hQ; simp only [Bool.not_true, Bool.false_eq_true, if_false]; subst hK hQ) | refine Jr.go ?_) | refine sd ?_)
  refine loop_of (fun i : Nat => i ≤ s.so.length ∧ (s.so.take i).all (fun x => inB x 0 9) = true) (fun i => [.cptr (souV s), I s.so.length, I i]) (fun _ => H) (fun i => s.so.length - i) 0 ⟨Nat.zero_le _, rfl⟩ rfl rfl ?_
  intro i ⟨hi, hp⟩
  repeat (first | (with_reducible first | refine Ju.go ?_ | (refine Hd.go ?_; intro K Q hK hQ; simp only [List.getD_cons_succ, List.getD_cons_zero, nod_imm, Try.underlying3, e_lss, e_cond, decide_eq_true_eq]; subst hK hQ) | refine Jr.go ?_) | refine sd ?_)
  by_cases hlt : i < s.so.length
  ·have d : (i : Int) < s.so.length := by omega
   repeat (first | (with_reducible first | refine Ju.go ?_ | (refine Hd.go ?_; intro K Q hK hQ; simp only [d, if_true, List.getD_cons_zero, nod_cptr, e_fac, Nat.zero_add, lv_cons, List.length_nil, Nat.reduceAdd, Nat.reduceLeDiff, true_and, e_ldci, nod_ints, nd_no, List.getD_cons_succ, nod_imm, e_ix, Int.toNat_natCast, e_ldc, Try.underlying3, e_lss, e_gtr, e_gF, j_fl, decide_eq_false_iff_not, j_or', j_side, j_one, e_cond]; subst hK hQ) | refine Jr.go ?_) | refine sd ?_)
   have e : (decide (s.so.getD i 0 < 0) || decide (9 < s.so.getD i 0)) = !inB (s.so.getD i 0) 0 9 := by
    unfold inB
    rw [Bool.not_and, ← decide_not, ← decide_not]
    simp only [Int.not_le]
   rw [e]
   cases hb : inB (s.so.getD i 0) 0 9
   ·repeat (first | (with_reducible first | refine Ju.go ?_ | (refine Hd.go ?_; intro K Q hK hQ; simp only [Bool.not_false, if_true]; subst hK hQ) | refine Jr.go ?_) | refine sd ?_)
    rw [show (s.so.all fun x => inB x 0 9) = false from all_bad s.so 0 _ hlt hb]
    exact end1 (fzI _)
   ·repeat (first | (with_reducible first | refine Ju.go ?_ | (refine Hd.go ?_; intro K Q hK hQ; simp only [Bool.not_true, Bool.false_eq_true, if_false, List.getD_cons_succ, List.getD_cons_zero, nod_imm, Try.underlying3, e_add]; subst hK hQ) | refine Jr.go ?_) | refine sd ?_)
    exact ⟨i + 1, ⟨by omega, by rw [all_take s.so 0 _ hlt, hp, hb]; rfl⟩, rfl, rfl, by omega⟩
  ·have d : ¬ (i : Int) < s.so.length := by omega
   rw [List.take_of_length_le (by omega)] at hp
   rw [hp]
   repeat (first | (with_reducible first | refine Ju.go ?_ | (refine Hd.go ?_; intro K Q hK hQ; simp only [d, if_false]; subst hK hQ) | refine Jr.go ?_) | refine sd ?_)
   clear hp d hlt
   refine loop_of (fun i : Nat => i ≤ s.on.length ∧ (s.on.take i).all (okOn s) = true) (fun i => [.cptr (souV s), I i]) (fun _ => H) (fun i => s.on.length - i) 0 ⟨Nat.zero_le _, rfl⟩ rfl rfl ?_
   intro i ⟨hi, hp⟩
   repeat (first | (with_reducible first | refine Ju.go ?_ | (refine Hd.go ?_; intro K Q hK hQ; simp only [List.getD_cons_zero, nod_cptr, e_fac, Nat.reduceAdd, lv_cons, List.length_nil, Nat.zero_add, Nat.reduceLeDiff, List.getD_cons_succ, true_and, e_ldcV, nod_arr, nd_no, e_lenA, List.length_map, nod_imm, Try.underlying3, e_lss, e_cond, decide_eq_true_eq]; subst hK hQ) | refine Jr.go ?_) | refine sd ?_)
   by_cases hlt : i < s.on.length
   ·have d : (i : Int) < s.on.length := by omega
    have hmem := getD_memA s.on [] hlt
    have hle := sm.ol _ hmem
    have bad : okOn s (s.on.getD i []) = false → (true && true && s.on.all (okOn s)) = false := fun h => all_bad s.on [] _ hlt h
    have eo : okOn s (s.on.getD i []) = (inB (s.on.getD i []).length 1 4 && okLi s (s.on.getD i []) && (s.on.getD i []).all fun p => !nuc s p) := rfl
    have nx := all_take s.on [] (okOn s) hlt
    repeat (first | (with_reducible first | refine Ju.go ?_ | (refine Hd.go ?_; intro K Q hK hQ; simp only [d, if_true, List.getD_cons_zero, nod_cptr, e_fac, Nat.reduceAdd, lv_cons, List.length_nil, Nat.zero_add, Nat.reduceLeDiff, List.getD_cons_succ, true_and, e_ldcV, nod_arr, nd_no, nod_imm, ix_li, Int.toNat_natCast, e_ldci, nod_ints, e_len, Try.underlying3, e_lss, e_gtr, e_gF, j_or', j_one, e_ldcA, nod_agg, List.map_cons, nodL_ints, nodL_imm, nodL_arr, List.map_nil]; subst hK hQ) | refine Jr.go ?_) | refine sd ?_)
    generalize s.on.getD i [] = o at *
    generalize hR : Rn _ = R
    have key : R [.cptr (souV s), I i, ints o .no, B (!(inB o.length 1 4 && okLi s o))] H := by
     subst hR
     cases hb : (inB o.length 1 4 && okLi s o)
     ·rw [hb] at eo
      repeat (first | (with_reducible first | refine Ju.go ?_ | (refine Hd.go ?_; intro K Q hK hQ; simp only [Bool.not_false, List.getD_cons_succ, List.getD_cons_zero, nod_imm, e_cond, if_true]; subst hK hQ) | refine Jr.go ?_) | refine sd ?_)
      rw [bad eo]
      exact end1 (fzI _)
     ·rw [hb, Bool.true_and] at eo
      rw [Bool.and_eq_true] at hb
      repeat (first | (with_reducible first | refine Ju.go ?_ | (refine Hd.go ?_; intro K Q hK hQ; simp only [Bool.not_true, List.getD_cons_succ, List.getD_cons_zero, nod_imm, e_cond, Bool.false_eq_true, if_false]; subst hK hQ) | refine Jr.go ?_) | refine sd ?_)
      refine loop_of (fun j : Nat => j ≤ o.length ∧ (o.take j).all (fun p => !nuc s p) = true) (fun j => [.cptr (souV s), I i, ints o .no, I j]) (fun _ => H) (fun j => o.length - j) 0 ⟨Nat.zero_le _, rfl⟩ rfl rfl ?_
      intro j ⟨hj, hq⟩
      repeat (first | (with_reducible first | refine Ju.go ?_ | (refine Hd.go ?_; intro K Q hK hQ; simp only [List.getD_cons_succ, List.getD_cons_zero, nod_ints, nd_no, e_len, nod_imm, Try.underlying3, e_lss, e_cond, decide_eq_true_eq]; subst hK hQ) | refine Jr.go ?_) | refine sd ?_)
      by_cases hjl : j < o.length
      ·have d2 : (j : Int) < o.length := by omega
       have hx := okLi_mem hb.2 (hMem o hjl)
       repeat (first | (with_reducible first | refine Ju.go ?_ | (refine Hd.go ?_; intro K Q hK hQ; simp only [d2, if_true, List.getD_cons_zero, nod_cptr, e_ldcA, lv_cons, List.length_nil, Nat.zero_add, Nat.reduceAdd, true_and, List.getD_cons_succ, nod_ints, nd_no, nod_imm, e_ix, Int.toNat_natCast, e_ldc, nod_agg, List.map_cons, nodL_ints, nodL_imm, nodL_arr, List.map_nil]; subst hK hQ) | refine Jr.go ?_) | refine sd ?_)
       refine call_ofD (c20 s _ _ hx sm.so) ?_
       cases hn : nuc s (o.getD j 0)
       ·repeat (first | (with_reducible first | refine Ju.go ?_ | (refine Hd.go ?_; intro K Q hK hQ; simp only [nod_imm, e_cond, Bool.false_eq_true, if_false, List.getD_cons_succ, List.getD_cons_zero, Try.underlying3, e_add]; subst hK hQ) | refine Jr.go ?_) | refine sd ?_)
        exact ⟨j + 1, ⟨by omega, by rw [all_take o 0 _ hjl, hq, hn]; rfl⟩, rfl, rfl, by omega⟩
       ·repeat (first | (with_reducible first | refine Ju.go ?_ | (refine Hd.go ?_; intro K Q hK hQ; simp only [nod_imm, e_cond, if_true]; subst hK hQ) | refine Jr.go ?_) | refine sd ?_)
        rw [show (o.all fun p => !nuc s p) = false from all_bad o 0 _ hjl (by rw [hn]; rfl)] at eo
        rw [bad eo]
        exact end1 (fzI _)
      ·have d2 : ¬ (j : Int) < o.length := by omega
       rw [List.take_of_length_le (by omega)] at hq
       rw [hq] at eo
       repeat (first | (with_reducible first | refine Ju.go ?_ | (refine Hd.go ?_; intro K Q hK hQ; simp only [d2, if_false, List.getD_cons_zero, List.getD_cons_succ, nod_imm, Try.underlying3, e_add]; subst hK hQ) | refine Jr.go ?_) | refine sd ?_)
       exact ⟨i + 1, ⟨by omega, by rw [nx, hp, eo]; rfl⟩, rfl, rfl, by omega⟩
    have e5 : inB o.length 1 4 = (!(decide ((o.length : Int) < 1) || decide (4 < (o.length : Int)))) := by
     unfold inB
     rw [Bool.not_or, ← decide_not, ← decide_not]
     simp only [Int.not_lt]
    cases hc : (decide ((o.length : Int) < 1) || decide (4 < (o.length : Int)))
    ·rw [e5, hc, Bool.not_false, Bool.true_and] at key
     repeat (first | (with_reducible first | refine Ju.go ?_ | (refine Hd.go ?_; intro K Q hK hQ; simp only [cond_false]; subst hK hQ) | refine Jr.go ?_) | refine sd ?_)
     refine call_of (c53 s o _ hle) ?_
     repeat (first | (with_reducible first | refine Ju.go ?_ | (refine Hd.go ?_; intro K Q hK hQ; simp only [nod_imm, e_not]; subst hK hQ) | refine Jr.go ?_) | refine sd ?_)
     exact key
    ·rw [e5, hc, Bool.not_true, Bool.false_and] at key
     repeat (first | (with_reducible first | refine Ju.go ?_ | (refine Hd.go ?_; intro K Q hK hQ; simp only [cond_true]; subst hK hQ) | refine Jr.go ?_) | refine sd ?_)
     exact key
   ·have d : ¬ (i : Int) < s.on.length := by omega
    rw [List.take_of_length_le (by omega)] at hp
    repeat (first | (with_reducible first | refine Ju.go ?_ | (refine Hd.go ?_; intro K Q hK hQ; simp only [d, if_false]; subst hK hQ) | refine Jr.go ?_) | refine sd ?_)
    rw [hp]
    exact end1 (fzI _)
theorem c18 (s : Sou) (l : List Int) (H : Hp) (hl : l.length ≤ 9223372036854775807) : Ret Try.prog 18 [souV s, ints l .no] H (B (decide (l.length ≤ 400) && okLi s l)) H := by
 refine mk18 _ _ rfl (Nat.le_refl _) (.inl rfl) ?_
 simp only [vc18, real]
 by_cases h : l.length ≤ 400
 ·have d : (l.length : Int) ≤ 400 := by omega
  rw [decide_eq_true h, Bool.true_and]
  repeat (first | (with_reducible first | refine Ju.go ?_ | (refine Hd.go ?_; intro K Q hK hQ; simp only [nod_agg, List.map_cons, nodL_ints, nd_no, nodL_imm, nodL_arr, List.map_nil, e_bxI, okE_agg, lv_cons, List.length_nil, Nat.zero_add, Nat.reduceAdd, all_c, ck_ints, ck_I, ck_arr, all_n, Bool.and_self, and_true, true_and, nod_ints, e_len, nod_imm, Try.underlying3, e_leq, d, decide_true, nod_cptr, e_ldcA, e_gT, cond_true]; subst hK hQ) | refine Jr.go ?_) | refine sd ?_)
  refine call_of (c53 s l _ hl) ?_
  repeat (first | (with_reducible first | refine Ju.go ?_ | (refine Hd.go ?_; intro K Q hK hQ; simp only [nod_imm]; subst hK hQ) | refine Jr.go ?_) | refine sd ?_)
  exact end1 (fzI _)
 ·have d : ¬ (l.length : Int) ≤ 400 := by omega
  rw [decide_eq_false h, Bool.false_and]
  repeat (first | (with_reducible first | refine Ju.go ?_ | (refine Hd.go ?_; intro K Q hK hQ; simp only [nod_agg, List.map_cons, nodL_ints, nd_no, nodL_imm, nodL_arr, List.map_nil, e_bxI, okE_agg, lv_cons, List.length_nil, Nat.zero_add, Nat.reduceAdd, all_c, ck_ints, ck_I, ck_arr, all_n, Bool.and_self, and_true, true_and, nod_ints, e_len, nod_imm, Try.underlying3, e_leq, d, decide_false, nod_cptr, e_ldcA, e_gT, cond_false, j_one]; subst hK hQ) | refine Jr.go ?_) | refine sd ?_)
  exact end1 (fzI _)
def leg (s : Sou) (l : List Int) : Bool := (s.on.any fun o => decide (o = l)) || decide (l.length = 0)
theorem leg_len {s : Sou} (hs : okS s = true) {l : List Int} (h : (s.on.any fun o => decide (o = l)) = true) : 1 ≤ l.length ∧ l.length ≤ 4 := by
 unfold okS at hs
 rw [Bool.and_eq_true, List.all_eq_true] at hs
 obtain ⟨o, ho, e⟩ := List.any_eq_true.1 h
 rw [decide_eq_true_eq] at e
 subst e
 have := hs.2 _ ho
 unfold okOn at this
 rw [Bool.and_eq_true, Bool.and_eq_true, inB_iff] at this
 omega
theorem onN_is (on : List (List Int)) (bt : List Int) : ∀ n, (onN on bt n ≠ 0 → (on.any fun o => decide (o = bt.drop (bt.length - onN on bt n))) = true) ∧ ∀ m, onN on bt n < m → m ≤ n → (on.any fun o => decide (o = bt.drop (bt.length - m))) = false
 | 0 => ⟨fun h => absurd rfl h, fun m h1 h2 => by unfold onN at h1; omega⟩
 | n + 1 => by
  obtain ⟨i1, i2⟩ := onN_is on bt n
  unfold onN
  split
  ·rename_i h
   exact ⟨fun _ => h, fun m h1 h2 => by omega⟩
  ·rename_i h
   refine ⟨i1, fun m h1 h2 => ?_⟩
   by_cases e : m = n + 1
   ·subst e; exact Bool.eq_false_iff.2 h
   ·exact i2 m h1 (by omega)
theorem ons_le (s : Sou) (bt : List Int) : ons s bt ≤ bt.length := Nat.le_trans (onN_le _ _ _) (Nat.min_le_right _ _)
theorem ons_is {s : Sou} (hs : okS s = true) (bt : List Int) : leg s (bt.drop (bt.length - ons s bt)) = true ∧ ∀ t, t < bt.length - ons s bt → leg s (bt.drop t) = false := by
 obtain ⟨h1, h2⟩ := onN_is s.on bt (min 4 bt.length)
 have hle := ons_le s bt
 refine ⟨?_, fun t ht => ?_⟩
 ·unfold leg
  rw [Bool.or_eq_true]
  by_cases h0 : ons s bt = 0
  ·right
   rw [decide_eq_true_eq, List.length_drop]; omega
  ·exact .inl (h1 h0)
 ·unfold leg
  have hl : (bt.drop t).length = bt.length - t := List.length_drop ..
  rw [Bool.or_eq_false_iff, decide_eq_false_iff_not]
  refine ⟨?_, by omega⟩
  by_cases h4 : bt.length - t ≤ 4
  ·have := h2 (bt.length - t) (by show ons s bt < _; omega) (by omega)
   rwa [show bt.length - (bt.length - t) = t by omega] at this
  ·refine Bool.eq_false_iff.2 fun h => ?_
   have := leg_len hs h
   omega
def nl (s : Sou) (ph : List Int) (i : Nat) : List Nat := (List.range i).filter fun j => nuc s (ph.getD j 0)
def frS (s : Sou) (ph : List Int) (L : List Nat) : Nat → Int
 | 0 => 0
 | j + 1 => (L.getD (j + 1) 0 : Nat) - (ons s (btw ph (L.getD j 0 + 1) (L.getD (j + 1) 0)) : Nat)
def toS (s : Sou) (ph : List Int) (L : List Nat) (j : Nat) : Int := if j + 1 < L.length then frS s ph L (j + 1) else (ph.length : Nat)
def sylL (s : Sou) (ph : List Int) (L : List Nat) (m : Nat) : List Sy3 := (List.range m).map fun j => ⟨frS s ph L j, (L.getD j 0 : Nat), toS s ph L j⟩
theorem sylL_len (s : Sou) (ph : List Int) (L : List Nat) (m : Nat) : (sylL s ph L m).length = m := by unfold sylL; simp
theorem sylL_get (s : Sou) (ph : List Int) (L : List Nat) {m j : Nat} (h : j < m) : (sylL s ph L m).getD j default = ⟨frS s ph L j, (L.getD j 0 : Nat), toS s ph L j⟩ := by
 unfold sylL
 rw [List.getD_eq_getElem?_getD, List.getElem?_map, List.getElem?_range h]; rfl
theorem sylL_s (s : Sou) (ph : List Int) (L : List Nat) (m : Nat) : sylL s ph L (m + 1) = sylL s ph L m ++ [⟨frS s ph L m, (L.getD m 0 : Nat), toS s ph L m⟩] := by
 unfold sylL
 rw [List.range_succ, List.map_append]; rfl
theorem getD_app {L : List Nat} (x : Nat) {j : Nat} (h : j < L.length) : (L ++ [x]).getD j 0 = L.getD j 0 := by
 rw [List.getD_eq_getElem?_getD, List.getElem?_append_left h, List.getD_eq_getElem?_getD]
theorem getD_last (L : List Nat) (x : Nat) : (L ++ [x]).getD L.length 0 = x := by
 rw [List.getD_eq_getElem?_getD, List.getElem?_append_right (Nat.le_refl _), Nat.sub_self]; rfl
theorem frS_s (s : Sou) (ph : List Int) (L : List Nat) (j : Nat) : frS s ph L (j + 1) = (L.getD (j + 1) 0 : Nat) - (ons s (btw ph (L.getD j 0 + 1) (L.getD (j + 1) 0)) : Nat) := rfl
theorem frS_app (s : Sou) (ph : List Int) (L : List Nat) (x : Nat) : ∀ {j : Nat}, j < L.length → frS s ph (L ++ [x]) j = frS s ph L j
 | 0, _ => rfl
 | j + 1, h => by
  rw [frS_s, frS_s, getD_app x h, getD_app x (by omega : j < L.length)]
theorem addS_L (s : Sou) (ph : List Int) (i : Nat) (L : List Nat) : addS s ph i (sylL s ph L L.length) = sylL s ph (L ++ [i]) (L ++ [i]).length := by
 have hlen := sylL_len s ph L L.length
 unfold addS
 rw [hlen]
 by_cases h0 : L.length = 0
 ·rw [if_pos h0]
  obtain rfl := List.length_eq_zero_iff.1 h0
  rfl
 ·rw [if_neg h0]
  have hg := sylL_get s ph L (m := L.length) (j := L.length - 1) (by omega)
  dsimp only
  rw [hg]
  have e1 : (((L.getD (L.length - 1) 0 : Nat) : Int) + 1).toNat = L.getD (L.length - 1) 0 + 1 := by omega
  dsimp only
  rw [e1]
  have ef : frS s ph (L ++ [i]) L.length = (i : Int) - (ons s (btw ph (L.getD (L.length - 1) 0 + 1) i) : Nat) := by
   obtain ⟨k, hk⟩ : ∃ k, L.length = k + 1 := ⟨L.length - 1, by omega⟩
   have a1 := getD_last L i
   have a2 := getD_app (L := L) i (j := k) (by omega)
   rw [hk] at a1
   rw [hk]
   rw [frS_s, a1, a2, Nat.add_sub_cancel]
  rw [← ef]
  have el : (L ++ [i]).length = L.length + 1 := by simp
  rw [el, sylL_s, getD_last]
  have et : toS s ph (L ++ [i]) L.length = (ph.length : Nat) := by
   unfold toS
   rw [if_neg (by rw [el]; omega)]
  rw [et]
  congr 1
  refine List.ext_getElem? fun j => ?_
  rw [List.getElem?_set]
  unfold sylL
  rw [List.getElem?_map, List.getElem?_map]
  by_cases hj : j < L.length
  ·rw [List.getElem?_range hj]
   by_cases hl : L.length - 1 = j
   ·rw [if_pos hl, if_pos (by rw [List.length_map, List.length_range]; omega)]
    subst hl
    simp only [Option.map_some]
    rw [frS_app s ph L i (j := L.length - 1) (by omega), getD_app (L := L) i (j := L.length - 1) (by omega)]
    unfold toS
    rw [if_pos (by rw [el]; omega), show L.length - 1 + 1 = L.length by omega]
   ·rw [if_neg hl]
    simp only [Option.map_some]
    rw [frS_app s ph L i hj, getD_app i hj]
    unfold toS
    have c1 : j + 1 < L.length := by omega
    have c2 : j + 1 < (L ++ [i]).length := by rw [el]; omega
    rw [if_pos c1, if_pos c2, frS_app s ph L i c1]
  ·rw [if_neg (by omega), List.getElem?_eq_none (by rw [List.length_range]; omega)]; rfl
theorem nl_s (s : Sou) (ph : List Int) (i : Nat) : nl s ph (i + 1) = if nuc s (ph.getD i 0) = true then nl s ph i ++ [i] else nl s ph i := by
 unfold nl
 rw [List.range_succ, List.filter_append]
 split
 ·rename_i h
  rw [List.filter_cons_of_pos (p := fun j => nuc s (ph.getD j 0)) h]; rfl
 ·rename_i h
  rw [List.filter_cons_of_neg (p := fun j => nuc s (ph.getD j 0)) h, List.filter_nil, List.append_nil]
theorem sylN_L (s : Sou) (ph : List Int) : ∀ i, sylN s ph i = sylL s ph (nl s ph i) (nl s ph i).length
 | 0 => rfl
 | i + 1 => by
  unfold sylN
  rw [nl_s, sylN_L s ph i]
  split
  ·exact addS_L s ph i _
  ·rfl
theorem nl_mem {s : Sou} {ph : List Int} {i j : Nat} (h : j < (nl s ph i).length) : (nl s ph i).getD j 0 < i ∧ nuc s (ph.getD ((nl s ph i).getD j 0) 0) = true := by
 have hm := getD_memA (nl s ph i) 0 h
 have := List.mem_filter.1 hm
 rw [List.mem_range] at this
 exact this
theorem sylP_L (s : Sou) (ph : List Int) : sylP s ph = if ph.length = 0 then [] else if (nl s ph ph.length).length = 0 then [⟨0, -1, ph.length⟩] else sylL s ph (nl s ph ph.length) (nl s ph ph.length).length := by
 unfold sylP
 rw [sylN_L, sylL_len]
theorem nl_len (s : Sou) (ph : List Int) (i : Nat) : (nl s ph i).length ≤ i := by
 unfold nl
 exact Nat.le_trans (List.length_filter_le ..) (by simp)
def frX (s : Sou) (ph : List Int) (L : List Nat) (k : Nat) : Int := if k = 0 then 0 else toS s ph L (k - 1)
theorem frX_lt (s : Sou) (ph : List Int) (L : List Nat) {k : Nat} (h : k < L.length) : frX s ph L k = frS s ph L k := by
 unfold frX
 cases k with
 | zero => rfl
 | succ k =>
  rw [if_neg (Nat.succ_ne_zero k), Nat.add_sub_cancel]
  unfold toS
  rw [if_pos h]
theorem c21 (s : Sou) (l : List Int) (H : Hp) (hs : s.on.length ≤ 1000000) (ho : ∀ o, o ∈ s.on → o.length ≤ 1000000) : Ret Try.prog 21 [souV s, ints l .no] H (B (leg s l)) H := by
 refine mk21 _ _ rfl (Nat.le_refl _) (.inl rfl) ?_
 simp only [vc21, real]
 repeat (first | (with_reducible first | refine Ju.go ?_ | (refine Hd.go ?_; intro K Q hK hQ; simp only [nod_agg, List.map_cons, nodL_ints, nd_no, nodL_imm, nodL_arr, List.map_nil, e_bxI, okE_agg, lv_cons, List.length_nil, Nat.zero_add, Nat.reduceAdd, all_c, ck_ints, ck_I, ck_arr, all_n, Bool.and_self, and_true, true_and]; subst hK hQ) | refine Jr.go ?_) | refine sd ?_)
 refine loop_of (fun i : Nat => i ≤ s.on.length ∧ ∀ j, j < i → s.on.getD j [] ≠ l) (fun i => [ints l .no, .cptr (souV s), I i]) (fun _ => H) (fun i => s.on.length - i) 0 ⟨Nat.zero_le _, fun j h => by omega⟩ rfl rfl ?_
 intro i ⟨hi, hp⟩
 repeat (first | (with_reducible first | refine Ju.go ?_ | (refine Hd.go ?_; intro K Q hK hQ; simp only [List.getD_cons_succ, List.getD_cons_zero, nod_cptr, e_fac, Nat.reduceAdd, lv_cons, List.length_nil, Nat.zero_add, Nat.reduceLeDiff, true_and, e_ldcV, nod_arr, nd_no, e_lenA, List.length_map, nod_imm, Try.underlying3, e_lss, e_cond, decide_eq_true_eq]; subst hK hQ) | refine Jr.go ?_) | refine sd ?_)
 by_cases hlt : i < s.on.length
 ·have d : (i : Int) < s.on.length := by omega
  have hm := getD_memA s.on [] hlt
  repeat (first | (with_reducible first | refine Ju.go ?_ | (refine Hd.go ?_; intro K Q hK hQ; simp only [d, if_true, List.getD_cons_succ, List.getD_cons_zero, nod_cptr, e_fac, Nat.reduceAdd, lv_cons, List.length_nil, Nat.zero_add, Nat.reduceLeDiff, true_and, e_ldcV, nod_arr, nd_no, nod_imm, ix_li, Int.toNat_natCast, e_ldci, nod_ints]; subst hK hQ) | refine Jr.go ?_) | refine sd ?_)
  refine call_of (c25 _ l .no .no _ (by have := ho _ hm; omega) (.inl rfl) (.inl rfl)) ?_
  by_cases he : s.on.getD i [] = l
  ·rw [decide_eq_true he]
   have : leg s l = true := by
    unfold leg
    rw [Bool.or_eq_true, List.any_eq_true]
    exact .inl ⟨_, hm, decide_eq_true he⟩
   rw [this]
   repeat (first | (with_reducible first | refine Ju.go ?_ | (refine Hd.go ?_; intro K Q hK hQ; simp only [List.getD_cons_zero, List.getD_cons_succ, nod_imm, e_cond, if_true]; subst hK hQ) | refine Jr.go ?_) | refine sd ?_)
   exact end1 (fzI _)
  ·rw [decide_eq_false he]
   repeat (first | (with_reducible first | refine Ju.go ?_ | (refine Hd.go ?_; intro K Q hK hQ; simp only [List.getD_cons_zero, List.getD_cons_succ, nod_imm, e_cond, Bool.false_eq_true, if_false, Try.underlying3, e_add]; subst hK hQ) | refine Jr.go ?_) | refine sd ?_)
   exact ⟨i + 1, ⟨hlt, fun j hj => by by_cases e : j = i; exact e ▸ he; exact hp j (by omega)⟩, rfl, rfl, by omega⟩
 ·have d : ¬ (i : Int) < s.on.length := by omega
  have e1 : (s.on.any fun o => decide (o = l)) = false := by
   rw [List.any_eq_false]
   intro o hm
   obtain ⟨j, hj, rfl⟩ := List.mem_iff_getElem.1 hm
   have := hp j (by omega)
   rw [List.getD_eq_getElem?_getD, List.getElem?_eq_getElem hj] at this
   simpa using this
  unfold leg
  rw [e1, Bool.false_or]
  have e2 : decide ((l.length : Int) = 0) = decide (l.length = 0) := by rw [decide_eq_decide]; omega
  repeat (first | (with_reducible first | refine Ju.go ?_ | (refine Hd.go ?_; intro K Q hK hQ; simp only [d, if_false, List.getD_cons_zero, nod_ints, nd_no, e_len, nod_imm, Try.underlying3, e_eql, e2]; subst hK hQ) | refine Jr.go ?_) | refine sd ?_)
  exact end1 (fzI _)
def atW (x : List Sy3) : Nat → Int
 | 0 => 0
 | i + 1 => (x.getD i default).t
structure Wh (s : Sou) (ph : List Int) (x : List Sy3) : Prop where
 z : x.length = 0 ↔ ph.length = 0
 f : ∀ i, i < x.length → (x.getD i default).f = atW x i
 t : ∀ i, i < x.length → 0 ≤ atW x i ∧ atW x i < (x.getD i default).t ∧ (x.getD i default).t ≤ ph.length
 nu : ∀ i, i < x.length → ∀ k : Nat, atW x i ≤ k → (k : Int) < (x.getD i default).t → nuc s (ph.getD k 0) = decide ((k : Int) = (x.getD i default).n)
 n0 : ∀ i, i < x.length → -1 ≤ (x.getD i default).n ∧ ((x.getD i default).n < 0 → x.length = 1)
 n1 : ∀ i, i < x.length → 0 ≤ (x.getD i default).n → atW x i ≤ (x.getD i default).n ∧ (x.getD i default).n < (x.getD i default).t
 on : ∀ i, i + 1 < x.length → 0 ≤ (x.getD i default).n ∧ ∀ k : Nat, (x.getD i default).n + 1 ≤ k → (k : Int) ≤ (x.getD (i + 1) default).n → (k : Int) ≤ (x.getD (i + 1) default).f → leg s ((ph.take (x.getD (i + 1) default).n.toNat).drop k) = decide ((k : Int) = (x.getD (i + 1) default).f)
 e : atW x x.length = ph.length
theorem sylP_W (s : Sou) (ph : List Int) (hs : okS s = true) : Wh s ph (sylP s ph) := by
 rw [sylP_L]
 by_cases h0 : ph.length = 0
 ·rw [if_pos h0]
  exact ⟨⟨fun _ => h0, fun _ => rfl⟩, fun i h => absurd h (Nat.not_lt_zero i), fun i h => absurd h (Nat.not_lt_zero i), fun i h => absurd h (Nat.not_lt_zero i), fun i h => absurd h (Nat.not_lt_zero i), fun i h => absurd h (Nat.not_lt_zero i), fun i h => absurd h (Nat.not_lt_zero _), by rw [h0]; rfl⟩
 ·rw [if_neg h0]
  by_cases hz : (nl s ph ph.length).length = 0
  ·rw [if_pos hz]
   have hn : ∀ k : Nat, k < ph.length → nuc s (ph.getD k 0) = false := fun k hk => by
    refine Bool.eq_false_iff.2 fun h => ?_
    have : k ∈ nl s ph ph.length := List.mem_filter.2 ⟨List.mem_range.2 hk, h⟩
    rw [List.length_eq_zero_iff.1 hz] at this
    cases this
   have one : ∀ i, i < ([⟨0, -1, ph.length⟩] : List Sy3).length → i = 0 := fun i h => by simp at h; exact h
   refine ⟨⟨fun h => absurd h (Nat.succ_ne_zero 0), fun h => absurd h h0⟩, fun i h => ?_, fun i h => ?_, fun i h => ?_, fun i h => ?_, fun i h => ?_, fun i h => by simp at h, rfl⟩
   ·obtain rfl := one i h; rfl
   ·obtain rfl := one i h
    show (0 : Int) ≤ 0 ∧ (0 : Int) < (ph.length : Nat) ∧ ((ph.length : Nat) : Int) ≤ ph.length
    omega
   ·obtain rfl := one i h
    intro k _ h2
    have h2' : (k : Int) < (ph.length : Nat) := h2
    rw [hn k (by omega)]
    show false = decide ((k : Int) = -1)
    rw [decide_eq_false (by omega)]
   ·obtain rfl := one i h
    exact ⟨by show (-1 : Int) ≤ -1; omega, fun _ => rfl⟩
   ·obtain rfl := one i h
    intro h2
    have : (0 : Int) ≤ -1 := h2
    omega
  ·rw [if_neg hz]
   have hpw : (nl s ph ph.length).Pairwise (· < ·) := List.Pairwise.filter _ List.pairwise_lt_range
   have hmem := @nl_mem s ph ph.length
   have hin : ∀ k : Nat, k < ph.length → nuc s (ph.getD k 0) = true → ∃ j, j < (nl s ph ph.length).length ∧ (nl s ph ph.length).getD j 0 = k := fun k hk h => by
    have : k ∈ nl s ph ph.length := List.mem_filter.2 ⟨List.mem_range.2 hk, h⟩
    obtain ⟨j, hj, e⟩ := List.mem_iff_getElem.1 this
    exact ⟨j, hj, by rw [List.getD_eq_getElem?_getD, List.getElem?_eq_getElem hj]; exact e⟩
   generalize nl s ph ph.length = L at *
   have hlt : ∀ i j, i < j → j < L.length → L.getD i 0 < L.getD j 0 := fun i j h1 h2 => by
    have := List.pairwise_iff_getElem.1 hpw i j (by omega) h2 h1
    rw [List.getD_eq_getElem?_getD, List.getElem?_eq_getElem (by omega), List.getD_eq_getElem?_getD, List.getElem?_eq_getElem h2]
    exact this
   have hlen := sylL_len s ph L L.length
   have hg : ∀ i, i < L.length → (sylL s ph L L.length).getD i default = ⟨frS s ph L i, (L.getD i 0 : Nat), toS s ph L i⟩ := fun i h => sylL_get s ph L h
   have hat : ∀ i, i ≤ L.length → atW (sylL s ph L L.length) i = frX s ph L i := fun i h => by
    cases i with
    | zero => rfl
    | succ i =>
     show ((sylL s ph L L.length).getD i default).t = _
     rw [hg i (by omega)]
     unfold frX
     rw [if_neg (Nat.succ_ne_zero i), Nat.add_sub_cancel]
   have hfs : ∀ i, i + 1 < L.length → (L.getD i 0 : Int) + 1 ≤ frS s ph L (i + 1) ∧ frS s ph L (i + 1) ≤ (L.getD (i + 1) 0 : Nat) := fun i h => by
    have h1 := hlt i (i + 1) (by omega) h
    have h2 := (hmem h).1
    have ole := ons_le s (btw ph (L.getD i 0 + 1) (L.getD (i + 1) 0))
    have bl : (btw ph (L.getD i 0 + 1) (L.getD (i + 1) 0)).length = L.getD (i + 1) 0 - (L.getD i 0 + 1) := by
     unfold btw
     rw [List.length_drop, List.length_take]; omega
    rw [frS_s]
    omega
   have hf0 : ∀ i, i < L.length → 0 ≤ frS s ph L i ∧ frS s ph L i ≤ (L.getD i 0 : Nat) ∧ (L.getD i 0 : Int) < toS s ph L i ∧ toS s ph L i ≤ ph.length := fun i h => by
    have a : 0 ≤ frS s ph L i ∧ frS s ph L i ≤ (L.getD i 0 : Nat) := by
     cases i with
     | zero => exact ⟨Int.le_refl _, Int.natCast_nonneg _⟩
     | succ i => have := hfs i h; omega
    have b := (hmem h).1
    refine ⟨a.1, a.2, ?_⟩
    unfold toS
    split
    ·rename_i h2
     have c := hfs i h2
     have d := (hmem h2).1
     omega
    ·omega
   refine ⟨⟨fun h => absurd (hlen ▸ h) hz, fun h => absurd h h0⟩, fun i h => ?_, fun i h => ?_, fun i h => ?_, fun i h => ?_, fun i h => ?_, fun i h => ?_, ?_⟩
   ·rw [hlen] at h
    rw [hg i h, hat i (by omega), frX_lt s ph L h]
   ·rw [hlen] at h
    rw [hg i h, hat i (by omega), frX_lt s ph L h]
    have := hf0 i h
    show 0 ≤ frS s ph L i ∧ frS s ph L i < toS s ph L i ∧ toS s ph L i ≤ ph.length
    omega
   ·rw [hlen] at h
    rw [hg i h, hat i (by omega), frX_lt s ph L h]
    intro k h1 h2
    have h2' : (k : Int) < toS s ph L i := h2
    show nuc s (ph.getD k 0) = decide ((k : Int) = (L.getD i 0 : Nat))
    have b := hf0 i h
    rw [Bool.eq_iff_iff, decide_eq_true_eq]
    refine ⟨fun hn => ?_, fun e => ?_⟩
    ·obtain ⟨j, hj, e⟩ := hin k (by omega) hn
     rcases Nat.lt_trichotomy j i with hc | rfl | hc
     ·exfalso
      obtain ⟨i, rfl⟩ : ∃ i', i = i' + 1 := ⟨i - 1, by omega⟩
      have c := hfs i h
      have d : L.getD j 0 ≤ L.getD i 0 := by
       by_cases hji : j = i
       ·rw [hji]; exact Nat.le_refl _
       ·exact Nat.le_of_lt (hlt j i (by omega) (by omega))
      omega
     ·omega
     ·exfalso
      unfold toS at h2'
      rw [if_pos (by omega)] at h2'
      have c := hfs i (by omega)
      have d : L.getD (i + 1) 0 ≤ L.getD j 0 := by
       by_cases hji : j = i + 1
       ·rw [hji]; exact Nat.le_refl _
       ·exact Nat.le_of_lt (hlt (i + 1) j (by omega) hj)
      omega
    ·obtain rfl : k = L.getD i 0 := by omega
     exact (hmem h).2
   ·rw [hlen] at h
    rw [hg i h]
    exact ⟨by show (-1 : Int) ≤ (L.getD i 0 : Nat); omega, fun h2 => by have : ((L.getD i 0 : Nat) : Int) < 0 := h2; omega⟩
   ·rw [hlen] at h
    rw [hg i h, hat i (by omega), frX_lt s ph L h]
    intro _
    have := hf0 i h
    exact ⟨this.2.1, this.2.2.1⟩
   ·rw [hlen] at h
    rw [hg i (by omega), hg (i + 1) h]
    refine ⟨Int.natCast_nonneg _, fun k h1 h2 h3 => ?_⟩
    have h1' : (L.getD i 0 : Int) + 1 ≤ k := h1
    have h2' : (k : Int) ≤ (L.getD (i + 1) 0 : Nat) := h2
    have h3' : (k : Int) ≤ frS s ph L (i + 1) := h3
    show leg s ((ph.take ((L.getD (i + 1) 0 : Nat) : Int).toNat).drop k) = decide ((k : Int) = frS s ph L (i + 1))
    rw [Int.toNat_natCast]
    rw [frS_s] at h3' ⊢
    have hb := (hmem h).1
    have bl : (btw ph (L.getD i 0 + 1) (L.getD (i + 1) 0)).length = L.getD (i + 1) 0 - (L.getD i 0 + 1) := by
     unfold btw
     rw [List.length_drop, List.length_take]; omega
    obtain ⟨o1, o2⟩ := ons_is hs (btw ph (L.getD i 0 + 1) (L.getD (i + 1) 0))
    have ole := ons_le s (btw ph (L.getD i 0 + 1) (L.getD (i + 1) 0))
    have ek : (ph.take (L.getD (i + 1) 0)).drop k = (btw ph (L.getD i 0 + 1) (L.getD (i + 1) 0)).drop (k - (L.getD i 0 + 1)) := by
     unfold btw
     rw [List.drop_drop]
     congr 1
     omega
    rw [ek]
    generalize ons s (btw ph (L.getD i 0 + 1) (L.getD (i + 1) 0)) = on at *
    by_cases e : (k : Int) = (L.getD (i + 1) 0 : Nat) - (on : Nat)
    ·rw [decide_eq_true e, show k - (L.getD i 0 + 1) = (btw ph (L.getD i 0 + 1) (L.getD (i + 1) 0)).length - on by omega]
     exact o1
    ·rw [decide_eq_false e]
     exact o2 _ (by omega)
   ·rw [hlen, hat _ (Nat.le_refl _)]
    unfold frX toS
    rw [if_neg hz, if_neg (by omega)]
end Go.Proofs.Ytgicpobploinhaa
