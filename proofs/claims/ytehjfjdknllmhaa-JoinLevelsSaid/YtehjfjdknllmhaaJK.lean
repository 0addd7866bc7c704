/- Contracts of join's functions, seventh part: ref.Stretch, ref.Transpose. -/
import Derived.Test.YtehjfjdknllmhaaJJ
set_option linter.unusedVariables false
set_option linter.unusedSimpArgs false
set_option linter.unnecessarySimpa false
set_option maxRecDepth 20000
set_option maxHeartbeats 2000000
namespace Go.Proofs.Ytehjfjdknllmhaa
open Go Go.Ab Go.Proofs
attribute [local congr] g_bin g_nilS g_nilP g_un g_ext g_bx g_fa g_ld g_st g_ix g_ixA g_slc g_mk g_bs g_bd g_nc g_cv g_len g_lenT g_app g_appB g_cpy g_mm g_call g_callG g_calm g_calmG g_range g_res g_pick g_cond g_loop g_Jv
theorem oF_pos {i : Nat} (h : 0 < i) : oF i = .own := by cases i; exact absurd h (by omega); rfl
theorem perL_lens {s m : List Int} (h : Mkd s m) : 1 ≤ (perL s m).length ∧ (perL s m).length ≤ 100000 := by
  rw [perL_length]
  have := h.two; have := h.mlen
  omega
theorem strP_length (l : List (List Int)) (a b : Int) : (strP l a b).length = (nearV l.length a b).toNat := by simp [strP]
theorem strP_get (l : List (List Int)) (a b : Int) (j : Nat) (hj : j < (strP l a b).length) : (strP l a b).getD j [] = l.getD (((j : Int) * l.length).tdiv (nearV l.length a b)).toNat [] := by
  rw [strP_length] at hj
  unfold strP
  rw [List.getD_eq_getElem?_getD, List.getElem?_map, List.getElem?_range hj]
  rfl
theorem strP_mem {l : List (List Int)} {a b : Int} (hl : l ≠ []) {x : List Int} (hx : x ∈ strP l a b) : x ∈ l := by
  unfold strP at hx
  rw [List.mem_map] at hx
  obtain ⟨j, hj, rfl⟩ := hx
  rw [List.mem_range] at hj
  have hpos : 0 < l.length := List.length_pos_iff.2 hl
  have d := div_lt (j := j) (m := l.length) (n := nearV l.length a b) (by omega) (by omega) (by omega)
  exact hMemL l (by omega)
theorem perL_ne {s m : List Int} (h : Mkd s m) : perL s m ≠ [] := by
  have := (perL_lens h).1
  intro e; rw [e] at this; simp at this
theorem strP_bd {s m : List Int} (h : Mkd s m) {a b : Int} (hr : ratioB a b = true) : (strP (perL s m) a b).length ≤ 1600001 ∧ (strP (perL s m) a b).flatten.length ≤ 160000100000 := by
  have hr := (ratioB_iff _ _).1 hr
  have h1 := perL_lens h
  have hb := nearV_bd (n := (perL s m).length) (a := a) (b := b) (by omega) (by omega) (by omega) (by omega) (by omega) (by omega) (by omega)
  have hf := flat_bd (strP (perL s m) a b) 100000 fun x hx => (perL_mem h (strP_mem (perL_ne h) hx)).2.1
  rw [strP_length] at *
  omega
theorem c35 (s m : List Int) (a b : Int) (H : Hp) (h : Mkd s m) (hr : ratioB a b = true) : Ret Try.prog 35 [mkd s m, I a, I b] H (mkd (builtS s m (strP (perL s m) a b)) (builtM s m (strP (perL s m) a b))) H := by
  have hlen := perL_lens h
  have hS := strP_bd h hr
  have hne := perL_ne h
  have h68 := fun H => c68 s m (strP (perL s m) a b) H h (by omega) (by omega)
  have hr := (ratioB_iff _ _).1 hr
  refine mk35 _ _ _ rfl (Nat.le_refl _) (.inl rfl) ?_
  simp only [vc35, real]
  simp only [nod_agg, List.map_cons, nodL_ints, nd_no, List.map_nil, Jn, nod_nod, nod_imm, Try.underlying3, List.getD_cons_zero, List.getD_cons_succ, e_bx, okE_agg, lv_cons, lv_nil, Nat.zero_add, Nat.reduceAdd, all_c, ck_arr, all_n, Bool.and_self, and_true, cl_agg, true_and, e_bxI, ck_ints, nod_cptr, e_ldcA]
  refine call_of (c32 s m _ h) ?_
  simp only [nod_lists, nd_no, e_lenL, nod_imm, e_mul]
  generalize perL s m = l at *
  have m1 := mul_bd (j := l.length) (m := a) (J := 100000) (M := 1000) (by omega) (by omega) (by omega) (by omega)
  repeat (refine And.intro (by first | (unfold R64; omega) | omega | assumption | (intros; (try simp only [Bool.or_eq_true, Bool.and_eq_true, Bool.not_eq_true', Bool.or_eq_false_iff, Bool.and_eq_false_iff, decide_eq_false_iff_not, decide_eq_true_eq, Bool.not_eq_true, Bool.not_eq_false'] at *); (try unfold R64); omega)) ?_)
  refine call_of (c67 (l.length * a) b _ (by omega) (by omega) (by omega) (by omega)) ?_
  rw [nearV_one]
  have hb := nearV_bd (n := l.length) (a := a) (b := b) (by omega) (by omega) (by omega) (by omega) (by omega) (by omega) (by omega)
  have e65 : strP l a b = (List.range (nearV l.length a b).toNat).map (fun (j : Nat) => l.getD (((j : Int) * l.length).tdiv (nearV l.length a b)).toNat []) := rfl
  generalize hN : nearV l.length a b = N at *
  refine loop_of (fun i : Nat => (i : Int) ≤ N) (fun i => [.cptr (mkd s m), .ptr H.length 0, lists l .no, I N, lists ((List.range i).map fun (j : Nat) => l.getD (((j : Int) * l.length).tdiv N).toNat []) (oF i), I i]) (fun _ => H ++ [Blk.cells [V.arr [] .full, V.arr [] .full]]) (fun i => N.toNat - i) 0 (by omega) rfl rfl ?_
  intro i hi
  simp only [mkd]
  simp only [List.getD_cons_succ, List.getD_cons_zero, nod_imm, nod_lists, nd_no, e_add, e_lenL, e_mul, e_quo, e_ixL, nod_cptr, e_ldci, nod_ints, bs1L, nd_full, true_and, e_appL, oF_ap, List.length_map, nod_ptr, e_ldcA, lv_cons, lv_nil, Nat.zero_add, Nat.reduceAdd, nod_agg, List.map_cons, nodL_ints, List.map_nil, e_lss, e_cond, decide_eq_true_eq]
  split
  · rename_i hlt
    have d := div_lt (j := i) (m := l.length) (n := N) (by omega) hlt (by omega)
    have mb := mul_bd (j := i) (m := l.length) (J := 16000001) (M := 1000000) (by omega) (by omega) (by omega) (by omega)
    repeat (refine And.intro (by first | (unfold R64; omega) | omega | assumption | (intros; (try simp only [Bool.or_eq_true, Bool.and_eq_true, Bool.not_eq_true', Bool.or_eq_false_iff, Bool.and_eq_false_iff, decide_eq_false_iff_not, decide_eq_true_eq, Bool.not_eq_true, Bool.not_eq_false'] at *); (try unfold R64); omega)) ?_)
    refine And.intro (by simp; omega) ?_
    refine And.intro (by unfold R64; omega) ?_
    refine ⟨i + 1, by omega, ?_, by omega⟩
    rw [List.range_succ, List.map_append]
    rfl
  · have : i = N.toNat := by omega
    subst this
    rw [← e65, oF_pos (by omega)]
    refine call_of (h68 _) ?_
    simp only [e_sc0, Nat.zero_add, lv_cons, lv_nil, Nat.reduceAdd, Nat.reduceLeDiff, stV_agg, List.map_cons, nodL_ints, nd_no, List.map_nil, okE_agg, all_c, ck_ints, all_n, Bool.and_self, and_true, cl_agg, spl_0, spl_n, e_rA0, dr_0, tk_s, tk_0, true_and]
    exact end1A (fzM _ _ _ _)
theorem trP_length (l : List (List Int)) (a b : Int) : (trP l a b).length = l.length := by simp [trP]
theorem trP_bd {s m : List Int} (h : Mkd s m) {a b : Int} (hr : ratioB a b = true) : (trP (perL s m) a b).length ≤ 100000 ∧ (trP (perL s m) a b).flatten.length ≤ 160000100000 := by
  have hr := (ratioB_iff _ _).1 hr
  have h1 := perL_lens h
  have hf := flat_bd (trP (perL s m) a b) 1600001 fun x hx => by
    unfold trP at hx
    rw [List.mem_map] at hx
    obtain ⟨p, hp, rfl⟩ := hx
    have hp := perL_mem h hp
    have hb := nearV_bd (n := p.length) (a := b) (b := a) (by omega) (by omega) (by omega) (by omega) (by omega) (by omega) (by omega)
    rw [trP1_length]
    omega
  rw [trP_length] at *
  omega
theorem c36 (s m : List Int) (a b : Int) (H : Hp) (h : Mkd s m) (hr : ratioB a b = true) : Ret Try.prog 36 [mkd s m, I a, I b] H (mkd (builtS s m (trP (perL s m) a b)) (builtM s m (trP (perL s m) a b))) H := by
  have hlen := perL_lens h
  have hS := trP_bd h hr
  have hne := perL_ne h
  have hmem := @perL_mem s m h
  have h68 := fun H => c68 s m (trP (perL s m) a b) H h (by omega) (by omega)
  have hr := (ratioB_iff _ _).1 hr
  refine mk36 _ _ _ rfl (Nat.le_refl _) (.inl rfl) ?_
  simp only [vc36, real]
  simp only [nod_agg, List.map_cons, nodL_ints, nd_no, List.map_nil, nod_nod, Try.underlying3, Jn, List.getD_cons_succ, List.getD_cons_zero, e_bx, okE_agg, lv_cons, lv_nil, Nat.zero_add, Nat.reduceAdd, all_c, ck_arr, all_n, Bool.and_self, and_true, cl_agg, true_and, e_bxI, ck_ints, nod_cptr, e_ldcA]
  refine call_of (c32 s m _ h) ?_
  generalize perL s m = l at *
  refine loop_of (fun i : Nat => i ≤ l.length) (fun i => [I a, I b, .cptr (mkd s m), .ptr H.length 0, lists l .no, lists ((l.take i).map fun p => trP1 p a b) (oF i), I i]) (fun _ => H ++ [Blk.cells [V.arr [] .full, V.arr [] .full]]) (fun i => l.length - i) 0 (by omega) rfl rfl ?_
  intro i hi
  simp only [mkd]
  simp only [List.getD_cons_succ, List.getD_cons_zero, nod_lists, nd_no, nod_imm, nod_cptr, nod_ptr, e_ldcA, lv_cons, lv_nil, Nat.zero_add, Nat.reduceAdd, nod_agg, List.map_cons, nodL_ints, List.map_nil, true_and, e_lenL, e_lss, e_cond, decide_eq_true_eq]
  split
  · rename_i hlt
    have hlt' : i < l.length := by omega
    have hp := hmem (hMemL l hlt')
    have et : l.take (i + 1) = l.take i ++ [l.getD i []] := take_succL l i hlt'
    have hg := getD_someL l hlt'
    have hpos : 0 < (l.getD i []).length := List.length_pos_iff.2 hp.1
    have hb := nearV_bd (n := (l.getD i []).length) (a := b) (b := a) (by omega) (by omega) (by omega) (by omega) (by omega) (by omega) (by omega)
    generalize hN : nearV (l.getD i []).length b a = N at *
    refine loop_of (fun j : Nat => (j : Int) ≤ N) (fun j => [I a, I b, .cptr (mkd s m), .ptr H.length 0, lists l .no, lists ((l.take i).map fun p => trP1 p a b) (oF i), I i, ints ((List.range j).map fun q => (l.getD i []).getD (min q ((l.getD i []).length - 1)) 0) (oF j), I j]) (fun _ => H ++ [Blk.cells [V.arr [] .full, V.arr [] .full]]) (fun i => N.toNat - i) 0 (by omega) rfl rfl ?_
    intro j hj
    simp only [mkd]
    simp only [List.getD_cons_succ, List.getD_cons_zero, nod_lists, nd_no, nod_imm, e_add, e_ixL, Int.toNat_natCast, nod_cptr, e_ldci, nod_ints, e_len, e_sub, e_min2, e_ix, e_ldc, bs1, nd_full, e_app, oF_ap, List.length_map, true_and, e_mul]
    have m1 := mul_bd (j := (l.getD i []).length) (m := b) (J := 100000) (M := 1000) (by omega) (by omega) (by omega) (by omega)
    repeat (refine And.intro (by first | (unfold R64; omega) | omega | assumption | (intros; (try simp only [Bool.or_eq_true, Bool.and_eq_true, Bool.not_eq_true', Bool.or_eq_false_iff, Bool.and_eq_false_iff, decide_eq_false_iff_not, decide_eq_true_eq, Bool.not_eq_true, Bool.not_eq_false'] at *); (try unfold R64); omega)) ?_)
    refine call_of (c67 ((l.getD i []).length * b) a _ (by omega) (by omega) (by omega) (by omega)) ?_
    rw [nearV_one, hN]
    simp only [nod_imm, true_and, e_lss, e_cond, decide_eq_true_eq]
    split
    · rename_i hjN
      repeat (refine And.intro (by first | (unfold R64; omega) | omega | assumption | (intros; (try simp only [Bool.or_eq_true, Bool.and_eq_true, Bool.not_eq_true', Bool.or_eq_false_iff, Bool.and_eq_false_iff, decide_eq_false_iff_not, decide_eq_true_eq, Bool.not_eq_true, Bool.not_eq_false'] at *); (try unfold R64); omega)) ?_)
      refine And.intro (by simp; omega) ?_
      refine And.intro (by unfold R64; omega) ?_
      refine ⟨j + 1, by omega, ?_, by omega⟩
      have e1 : (min (j : Int) (((l.getD i []).length : Int) - 1)).toNat = min j ((l.getD i []).length - 1) := by omega
      rw [List.range_succ, List.map_append, e1]
      rfl
    · have hjN : j = N.toNat := by omega
      subst hjN
      rw [oF_pos (by omega)]
      simp only [nd_own, bs1L, nod_lists, nd_full, e_appL, oF_ap, List.length_map, true_and]
      refine And.intro (by simp; omega) ?_
      refine ⟨(by unfold R64; omega), i + 1, by omega, ?_, by omega⟩
      rw [et, List.map_append]
      have : trP1 (l.getD i []) a b = (List.range N.toNat).map (fun q => (l.getD i []).getD (min q ((l.getD i []).length - 1)) 0) := by unfold trP1; rw [hN]
      rw [List.map_cons, List.map_nil, this]
      rfl
  · have : i = l.length := by omega
    subst this
    rw [List.take_length, oF_pos (by omega)]
    refine call_of (h68 _) ?_
    simp only [e_sc0, Nat.zero_add, lv_cons, lv_nil, Nat.reduceAdd, Nat.reduceLeDiff, stV_agg, List.map_cons, nodL_ints, nd_no, List.map_nil, okE_agg, all_c, ck_ints, all_n, Bool.and_self, and_true, cl_agg, spl_0, spl_n, e_rA0, dr_0, tk_s, tk_0, true_and]
    exact end1A (fzM _ _ _ _)
end Go.Proofs.Ytehjfjdknllmhaa
