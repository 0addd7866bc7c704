/- Contracts of join's functions, ninth part: Stretch, Transpose, Sing. -/
import Derived.Test.YtehjfjdknllmhaaJL
set_option linter.unusedVariables false
set_option linter.unusedSimpArgs false
set_option linter.unnecessarySimpa false
set_option maxRecDepth 20000
set_option maxHeartbeats 2000000
namespace Go.Proofs.Ytehjfjdknllmhaa
open Go Go.Ab Go.Proofs
attribute [local congr] g_bin g_nilS g_nilP g_un g_ext g_bx g_fa g_ld g_st g_ix g_ixA g_slc g_mk g_bs g_bd g_nc g_cv g_len g_lenT g_app g_appB g_cpy g_mm g_call g_callG g_calm g_calmG g_range g_res g_pick g_cond g_loop g_Jv
theorem stpS {s m : List Int} {a b : Int} (hM : Mkd s m) (hr : ratioB a b = true) : Stps a b [65] (fun i => if i = 0 then perL s m else strP (perL s m) a b) := by
  have hS := strP_bd hM hr
  have hP := perL_lens hM
  refine ⟨fun i hi H => ?_, ?_, ?_⟩
  · have : i = 0 := by simpa using hi
    subst this
    exact c65 a b (perL s m) H (perL_ne hM) (by omega) hr
  · show (strP _ _ _).length ≤ _; omega
  · show (strP _ _ _).flatten.length ≤ _; omega
theorem stpT {s m : List Int} {a b : Int} (hM : Mkd s m) (hr : ratioB a b = true) : Stps a b [66] (fun i => if i = 0 then perL s m else trP (perL s m) a b) := by
  have hS := trP_bd hM hr
  have hP := perL_lens hM
  refine ⟨fun i hi H => ?_, ?_, ?_⟩
  · have : i = 0 := by simpa using hi
    subst this
    exact c66 a b (perL s m) H (by omega) (fun p hp => ⟨(perL_mem hM hp).1, by have := (perL_mem hM hp).2.1; omega⟩) hr
  · show (trP _ _ _).length ≤ _; omega
  · show (trP _ _ _).flatten.length ≤ _; omega
theorem stpTS {s m : List Int} {a b : Int} (hM : Mkd s m) (hr : ratioB a b = true) : Stps a b [66, 65] (fun i => if i = 0 then perL s m else if i = 1 then trP (perL s m) a b else strP (trP (perL s m) a b) a b) := by
  have hr' := (ratioB_iff _ _).1 hr
  have hS := trP_bd hM hr
  have hP := perL_lens hM
  have hn : trP (perL s m) a b ≠ [] := by
    intro e; have := congrArg List.length e; rw [trP_length, List.length_nil] at this; omega
  have hB : ∀ x, x ∈ trP (perL s m) a b → x.length ≤ 1600001 := fun x hx => by
    unfold trP at hx
    rw [List.mem_map] at hx
    obtain ⟨p, hp, rfl⟩ := hx
    have hp := perL_mem hM hp
    have hb := nearV_bd (n := p.length) (a := b) (b := a) (by omega) (by omega) (by omega) (by omega) (by omega) (by omega) (by omega)
    rw [trP1_length]
    omega
  have hTl : (trP (perL s m) a b).length = (perL s m).length := trP_length _ _ _
  have hb := nearV_bd (n := (trP (perL s m) a b).length) (a := a) (b := b) (by omega) (by omega) (by omega) (by omega) (by omega) (by omega) (by omega)
  have hf := flat_bd (strP (trP (perL s m) a b) a b) 1600001 fun x hx => hB x (strP_mem hn hx)
  rw [strP_length] at hf
  refine ⟨fun i hi H => ?_, ?_, ?_⟩
  · match i, hi with
    | 0, _ => exact c66 a b (perL s m) H (by omega) (fun p hp => ⟨(perL_mem hM hp).1, by have := (perL_mem hM hp).2.1; omega⟩) hr
    | 1, _ => exact c65 a b (trP (perL s m) a b) H hn (by omega) hr
  · show (strP _ _ _).length ≤ _
    rw [strP_length]; omega
  · show (strP _ _ _).flatten.length ≤ _
    omega
theorem bs1F (f : Nat) {K : V → Prop} : aBS 1 1 (V.imm .nilFunc) [(0, V.fn f [])] K = K (funs [f]) := by simp [aBS, aPs, setP, okE_fn, funs]
theorem bs2F (f g : Nat) {K : V → Prop} : aBS 1 2 (V.imm .nilFunc) [(0, V.fn f []), (1, V.fn g [])] K = K (funs [f, g]) := by simp [aBS, aPs, setP, okE_fn, funs]
theorem chV_shape (s m : List Int) (a b : Int) (l : List (List Int)) : ∃ s' m' e, chV s m a b l = .tup [mkd s' m', I e] := by
  unfold chV
  repeat' split
  all_goals exact ⟨_, _, _, rfl⟩
theorem c27 (s m : List Int) (a b : Int) (H : Hp) (hs : s.length ≤ 1000000000) (hm : m.length ≤ 1000000000) : Ret Try.prog 27 [mkd s m, I a, I b] H (chV s m a b (strP (perL s m) a b)) H := by
  have hc : ∀ H, Ret Try.prog 64 [mkd s m, rat a b, funs [65]] H (chV s m a b (strP (perL s m) a b)) H := fun H => c64 s m a b [65] (fun i => if i = 0 then perL s m else strP (perL s m) a b) H hs hm (by simp) rfl fun he hr => stpS (markE_zero he) hr
  refine mk27 _ _ _ (chV_nd _ _ _ _ _) (Nat.le_refl _) (.inl rfl) ?_
  simp only [vc27, real]
  simp only [nod_agg, List.map_cons, nodL_ints, nd_no, List.map_nil, nod_imm, bs1F, nod_funs, e_bd1, okE_I, Nat.zero_add, lv_cons, lv_nil, Nat.reduceAdd, Nat.reduceLeDiff, cl_imm, spl_0, spl_n, spl_s, e_bd0, own0_imm, nodL_imm, true_and, e_bx, okE_agg, all_c, ck_arr, all_n, Bool.and_self, and_true, cl_agg, nod_ptr, e_bxI, ck_ints, nod_cptr, e_ldcA]
  refine call_of (hc _) ?_
  obtain ⟨s', m', e, he⟩ := chV_shape s m a b (strP (perL s m) a b)
  rw [he]
  simp only [nod_tup, List.map_cons, nod2_agg, nodL_ints, nd_no, List.map_nil, nod2_imm, e_sc0, Nat.zero_add, lv_cons, lv_nil, Nat.reduceAdd, Nat.reduceLeDiff, true_and, e_x21, e_x20, stV_agg, okE_agg, all_c, ck_ints, all_n, Bool.and_self, and_true, cl_agg, spl_0, spl_n, e_rA0, dr_0, tk_s, tk_0]
  exact end2M
theorem c28 (s m : List Int) (a b : Int) (H : Hp) (hs : s.length ≤ 1000000000) (hm : m.length ≤ 1000000000) : Ret Try.prog 28 [mkd s m, I a, I b] H (chV s m a b (trP (perL s m) a b)) H := by
  have hc : ∀ H, Ret Try.prog 64 [mkd s m, rat a b, funs [66]] H (chV s m a b (trP (perL s m) a b)) H := fun H => c64 s m a b [66] (fun i => if i = 0 then perL s m else trP (perL s m) a b) H hs hm (by simp) rfl fun he hr => stpT (markE_zero he) hr
  refine mk28 _ _ _ (chV_nd _ _ _ _ _) (Nat.le_refl _) (.inl rfl) ?_
  simp only [vc28, real]
  simp only [nod_agg, List.map_cons, nodL_ints, nd_no, List.map_nil, nod_imm, bs1F, nod_funs, e_bd1, okE_I, Nat.zero_add, lv_cons, lv_nil, Nat.reduceAdd, Nat.reduceLeDiff, cl_imm, spl_0, spl_n, spl_s, e_bd0, own0_imm, nodL_imm, true_and, e_bx, okE_agg, all_c, ck_arr, all_n, Bool.and_self, and_true, cl_agg, nod_ptr, e_bxI, ck_ints, nod_cptr, e_ldcA]
  refine call_of (hc _) ?_
  obtain ⟨s', m', e, he⟩ := chV_shape s m a b (trP (perL s m) a b)
  rw [he]
  simp only [nod_tup, List.map_cons, nod2_agg, nodL_ints, nd_no, List.map_nil, nod2_imm, e_sc0, Nat.zero_add, lv_cons, lv_nil, Nat.reduceAdd, Nat.reduceLeDiff, true_and, e_x21, e_x20, stV_agg, okE_agg, all_c, ck_ints, all_n, Bool.and_self, and_true, cl_agg, spl_0, spl_n, e_rA0, dr_0, tk_s, tk_0]
  exact end2M
theorem c34 (s m : List Int) (a b : Int) (H : Hp) (hs : s.length ≤ 1000000000) (hm : m.length ≤ 1000000000) : Ret Try.prog 34 [mkd s m, I a, I b] H (chV s m a b (strP (trP (perL s m) a b) a b)) H := by
  have hc : ∀ H, Ret Try.prog 64 [mkd s m, rat a b, funs [66, 65]] H (chV s m a b (strP (trP (perL s m) a b) a b)) H := fun H => c64 s m a b [66, 65] (fun i => if i = 0 then perL s m else if i = 1 then trP (perL s m) a b else strP (trP (perL s m) a b) a b) H hs hm (by simp) rfl fun he hr => stpTS (markE_zero he) hr
  refine mk34 _ _ _ (chV_nd _ _ _ _ _) (Nat.le_refl _) (.inl rfl) ?_
  simp only [vc34, real]
  simp only [nod_agg, List.map_cons, nodL_ints, nd_no, List.map_nil, nod_imm, bs2F, nod_funs, e_bd1, okE_I, Nat.zero_add, lv_cons, lv_nil, Nat.reduceAdd, Nat.reduceLeDiff, cl_imm, spl_0, spl_n, spl_s, e_bd0, own0_imm, nodL_imm, true_and, e_bx, okE_agg, all_c, ck_arr, all_n, Bool.and_self, and_true, cl_agg, nod_ptr, e_bxI, ck_ints, nod_cptr, e_ldcA]
  refine call_of (hc _) ?_
  obtain ⟨s', m', e, he⟩ := chV_shape s m a b (strP (trP (perL s m) a b) a b)
  rw [he]
  simp only [nod_tup, List.map_cons, nod2_agg, nodL_ints, nd_no, List.map_nil, nod2_imm, e_sc0, Nat.zero_add, lv_cons, lv_nil, Nat.reduceAdd, Nat.reduceLeDiff, true_and, e_x21, e_x20, stV_agg, okE_agg, all_c, ck_ints, all_n, Bool.and_self, and_true, cl_agg, spl_0, spl_n, e_rA0, dr_0, tk_s, tk_0]
  exact end2M
end Go.Proofs.Ytehjfjdknllmhaa
