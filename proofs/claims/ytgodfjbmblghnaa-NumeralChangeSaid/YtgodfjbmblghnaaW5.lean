/- The machinery of the proof, part 5: an abstract machine over list values, proved sound against the model, and the contracts of the functions that the law reaches. No condition. -/
import Derived.Test.YtgodfjbmblghnaaW4
import Derived.Test.YtgodfjbmblghnaaProg

set_option linter.unusedVariables false
set_option linter.unusedSimpArgs false
set_option linter.unnecessarySimpa false
set_option maxRecDepth 20000
set_option maxHeartbeats 2000000
namespace Go.Proofs.Ytgodfjbmblghnaa
open Go Go.Ab Go.Proofs
attribute [local congr] g_bin g_nilS g_nilP g_un g_ext g_bx g_fa g_ld g_st g_ix g_ixA g_slc g_mk g_bs g_bd g_nc g_cv g_len g_lenT g_app g_appB g_cpy g_mm g_call g_callG g_calm g_calmG g_range g_res g_pick g_cond g_loop g_Jv g_eqS g_eqP g_fd g_ixT g_ta g_lkp g_upd g_mkM g_appS g_inv g_callE g_callEG g_invE g_zr g_wr
def nuL (r : Nu) : List V := [I r.b, I r.d, .arr (r.p.map piV) .no]
def flN (l : List Nu) : List V := (l.map nuV).flatMap V.cl
theorem flN_nil : flN [] = [] := rfl
theorem flN_cons (r : Nu) (l : List Nu) : flN (r :: l) = I r.b :: I r.d :: .arr (r.p.map piV) .no :: flN l := rfl
theorem flN_len (l : List Nu) : (flN l).length = l.length * 3 := by
  induction l with
  | nil => rfl
  | cons r l ih => rw [flN_cons]; simp only [List.length_cons, ih]; omega
theorem flN_ld (l : List Nu) : ∀ {k : Nat}, k < l.length → ((flN l).drop (k * 3)).take 3 = nuL (l.getD k default) := by
  induction l with
  | nil => intro k h; simp at h
  | cons r l ih =>
    intro k h
    cases k with
    | zero => rfl
    | succ k =>
      have := ih (k := k) (by simpa using h)
      rw [flN_cons, show (k + 1) * 3 = k * 3 + 1 + 1 + 1 by omega, List.drop_succ_cons, List.drop_succ_cons, List.drop_succ_cons, this]
      rfl
theorem flN_st (l : List Nu) (r : Nu) : ∀ {k : Nat}, k < l.length → spl (flN l) (k * 3) (nuL r) = flN (l.set k r) := by
  induction l with
  | nil => intro k h; simp at h
  | cons x l ih =>
    intro k h
    cases k with
    | zero => simp only [flN_cons, nuL, Nat.zero_mul, spl_0, spl_n, List.set_cons_zero]
    | succ k =>
      have := ih (k := k) (by simpa using h)
      rw [flN_cons, show (k + 1) * 3 = k * 3 + 1 + 1 + 1 by omega, spl_s, spl_s, spl_s, this]
      rfl
theorem nuL_nodL (r : Nu) : (nuL r).map V.nodL = nuL r := rfl
theorem stN {b o : Nat} {r : Nu} {cs : List V} {H : Hp} {KH : V → Hp → Prop} (h : H[b]? = some (.cells cs)) : aSt 3 (.ptr b o) (.agg (nuL r)) H KH = (o + 3 ≤ cs.length ∧ KH .junk (H.set b (.cells (spl cs o (nuL r))))) := by
  rw [st_at h]
  have e : okE 3 (stV (.agg (nuL r))) = True := eq_true ⟨rfl, fun c hc => by
    simp only [stV, nuL, V.cl, List.map_cons, List.map_nil, List.mem_cons, List.not_mem_nil, or_false] at hc
    rcases hc with rfl | rfl | rfl <;> rfl⟩
  rw [e, true_and]
  rfl
def sw (l : List Nu) (i : Nat) : List Nu := (List.range l.length).map fun j => if j < i ∨ l.length - i ≤ j then l.getD (l.length - 1 - j) default else l.getD j default
theorem sw_len (l : List Nu) (i : Nat) : (sw l i).length = l.length := by simp [sw]
theorem sw_get (l : List Nu) (i : Nat) {j : Nat} (h : j < l.length) : (sw l i).getD j default = if j < i ∨ l.length - i ≤ j then l.getD (l.length - 1 - j) default else l.getD j default := by
  unfold sw
  rw [List.getD_eq_getElem?_getD, List.getElem?_map, List.getElem?_range h]; rfl
theorem ext_getD {l m : List Nu} (hl : l.length = m.length) (h : ∀ j, j < l.length → l.getD j default = m.getD j default) : l = m := by
  refine List.ext_getElem hl fun j h1 h2 => ?_
  have := h j h1
  rw [List.getD_eq_getElem?_getD, List.getD_eq_getElem?_getD, List.getElem?_eq_getElem h1, List.getElem?_eq_getElem h2] at this
  exact this
theorem getD_set (l : List Nu) (k j : Nat) (r : Nu) (h : j < l.length) : (l.set k r).getD j default = if k = j then r else l.getD j default := by
  rw [List.getD_eq_getElem?_getD, List.getD_eq_getElem?_getD, List.getElem?_set]
  by_cases e : k = j
  · subst e; rw [if_pos rfl, if_pos rfl, if_pos h]; rfl
  · rw [if_neg e, if_neg e]
theorem sw_0 (l : List Nu) : sw l 0 = l := ext_getD (sw_len l 0) fun j h => by
  rw [sw_len] at h
  rw [sw_get l 0 h, if_neg (by omega)]
theorem sw_end (l : List Nu) {i : Nat} (h : l.length ≤ 2 * i + 1) : sw l i = l.reverse := ext_getD (by rw [sw_len, List.length_reverse]) fun j hj => by
  rw [sw_len] at hj
  rw [sw_get l i hj]
  have : l.reverse.getD j default = l.getD (l.length - 1 - j) default := by
    rw [List.getD_eq_getElem?_getD, List.getD_eq_getElem?_getD, List.getElem?_reverse hj]
  rw [this]
  by_cases e : j < i ∨ l.length - i ≤ j
  · rw [if_pos e]
  · rw [if_neg e, show l.length - 1 - j = j by omega]
theorem sw_s (l : List Nu) {i : Nat} (h : 2 * i + 1 < l.length) : ((sw l i).set i (l.getD (l.length - 1 - i) default)).set (l.length - 1 - i) (l.getD i default) = sw l (i + 1) := ext_getD (by simp only [List.length_set, sw_len]) fun j hj => by
  rw [List.length_set, List.length_set, sw_len] at hj
  rw [getD_set _ _ _ _ (by rw [List.length_set, sw_len]; exact hj), getD_set _ _ _ _ (by rw [sw_len]; exact hj), sw_get l i hj, sw_get l (i + 1) hj]
  by_cases e1 : l.length - 1 - i = j
  · rw [if_pos e1, if_pos (by omega), show l.length - 1 - j = i by omega]
  · rw [if_neg e1]
    by_cases e2 : i = j
    · rw [if_pos e2, if_pos (by omega), e2]
    · rw [if_neg e2]
      by_cases e3 : j < i ∨ l.length - i ≤ j
      · rw [if_pos e3, if_pos (by omega)]
      · rw [if_neg e3, if_neg (by omega)]
theorem c95 (l : List Nu) (H : Hp) (b : Nat) (hH : H[b]? = some (.cells (flN l))) (hn : l ≠ []) (hl : l.length ≤ 800) : RetE Try.prog 95 [.sl b 0 l.length l.length 3] H (fun _ H' => H' = H.set b (.cells (flN l.reverse))) := by
  have hb : b < H.length := (List.getElem?_eq_some_iff.1 hH).1
  have hp : 0 < l.length := List.length_pos_iff.2 hn
  refine mkE95 _ ?_
  simp only [vc95, real]
  repeat (first | (with_reducible first | refine Ju.go ?_ | (refine Hd.go ?_; intro K Q hK hQ; simp only [nod_sl, e_lenS, nod_imm, Try.underlying3, e_sub]; subst hK hQ) | refine Jr.go ?_) | refine sd ?_)
  refine loop_of (fun i : Nat => i ≤ l.length ∧ 2 * i ≤ l.length) (fun i => [.sl b 0 l.length l.length 3, I i, I ((l.length : Int) - 1 - i)]) (fun i => H.set b (.cells (flN (sw l i)))) (fun i => l.length - i) 0 ⟨Nat.zero_le _, Nat.zero_le _⟩ (by simp) (by rw [sw_0, ← (List.getElem?_eq_some_iff.1 hH).2, List.set_getElem_self]) ?_
  intro i ⟨hi, hi2⟩
  have hS : ∀ m : List V, (H.set b (.cells m))[b]? = some (.cells m) := fun m => by rw [List.getElem?_set_self hb]
  repeat (first | (with_reducible first | refine Ju.go ?_ | (refine Hd.go ?_; intro K Q hK hQ; simp only [List.getD_cons_succ, List.getD_cons_zero, nod_imm, Try.underlying3, e_lss, e_cond, decide_eq_true_eq]; subst hK hQ) | refine Jr.go ?_) | refine sd ?_)
  by_cases hlt : 2 * i + 1 < l.length
  · have d : (i : Int) < (l.length : Int) - 1 - i := by omega
    have eI : ((l.length : Int) - 1 - i).toNat = l.length - 1 - i := by omega
    have f1 : ((flN (sw l i)).drop (i * 3)).take 3 = nuL (l.getD i default) := by
      rw [flN_ld _ (by rw [sw_len]; omega), sw_get l i (by omega), if_neg (by omega)]
    have f2 : ((flN (sw l i)).drop ((l.length - 1 - i) * 3)).take 3 = nuL (l.getD (l.length - 1 - i) default) := by
      rw [flN_ld _ (by rw [sw_len]; omega), sw_get l i (by omega), if_neg (by omega)]
    have g1 := flN_st (sw l i) (l.getD (l.length - 1 - i) default) (k := i) (by rw [sw_len]; omega)
    have g2 := flN_st ((sw l i).set i (l.getD (l.length - 1 - i) default)) (l.getD i default) (k := l.length - 1 - i) (by rw [List.length_set, sw_len]; omega)
    rw [sw_s l hlt] at g2
    have h1 : i * 3 + 3 ≤ l.length * 3 := by omega
    have h2 : (l.length - 1 - i) * 3 + 3 ≤ l.length * 3 := by omega
    repeat (first | (with_reducible first | refine Ju.go ?_ | (refine Hd.go ?_; intro K Q hK hQ; simp only [d, if_true, List.getD_cons_zero, nod_sl, List.getD_cons_succ, nod_imm, e_ixS, eI, Nat.zero_add, nod_ptr, ldA_at (hS _), flN_len, sw_len, h2, f2, nod_agg, nuL_nodL, true_and, Int.toNat_natCast, h1, f1, stN (hS _), g1, List.set_set, List.length_set, g2, Try.underlying3, e_add, e_sub]; subst hK hQ) | refine Jr.go ?_) | refine sd ?_)
    exact ⟨i + 1, ⟨by omega, by omega⟩, by simp; omega, rfl, by omega⟩
  · have d : ¬ (i : Int) < (l.length : Int) - 1 - i := by omega
    repeat (first | (with_reducible first | refine Ju.go ?_ | (refine Hd.go ?_; intro K Q hK hQ; simp only [d, if_false]; subst hK hQ) | refine Jr.go ?_) | refine sd ?_)
    rw [sw_end l (by omega)]
    rfl
end Go.Proofs.Ytgodfjbmblghnaa


set_option linter.unusedVariables false
set_option linter.unusedSimpArgs false
set_option linter.unnecessarySimpa false
set_option maxRecDepth 20000
set_option maxHeartbeats 2000000
namespace Go.Proofs.Ytgodfjbmblghnaa
open Go Go.Ab Go.Proofs
attribute [local congr] g_bin g_nilS g_nilP g_un g_ext g_bx g_fa g_ld g_st g_ix g_ixA g_slc g_mk g_bs g_bd g_nc g_cv g_len g_lenT g_app g_appB g_cpy g_mm g_call g_callG g_calm g_calmG g_range g_res g_pick g_cond g_loop g_Jv g_eqS g_eqP g_fd g_ixT g_ta g_lkp g_upd g_mkM g_appS g_inv g_callE g_callEG g_invE g_zr g_wr
theorem flN_bel (n : Nat) (l : List Nu) : ∀ c, c ∈ flN l → Bel n c := by
  induction l with
  | nil => intro c h; simp [flN_nil] at h
  | cons r l ih =>
    intro c h
    rw [flN_cons] at h
    simp only [List.mem_cons] at h
    rcases h with rfl | rfl | rfl | h
    · exact .imm _
    · exact .imm _
    · refine .arr _ _ fun c hc => ?_
      obtain ⟨p, -, rfl⟩ := List.mem_map.1 hc
      refine .agg _ fun c hc => ?_
      simp only [List.mem_cons, List.not_mem_nil, or_false] at hc
      rcases hc with rfl | rfl | rfl | rfl <;> exact .imm _
    · exact ih c h
theorem fz_nu {n : Nat} {H : Hp} {b : Nat} {l : List Nu} (hb : n ≤ b) (hH : H[b]? = some (.cells (flN l))) : Fz n H (.sl b 0 l.length l.length 3) (seV l) := by
  refine .sl b 0 l.length l.length 3 3 (flN l) (l.map nuV) .no hb hH (by rw [List.length_map]) (by decide) ?_ (fun h => by cases h) (by rw [flN_len]; omega) ?_
  · intro x hx
    obtain ⟨r, -, rfl⟩ := List.mem_map.1 hx
    refine ⟨rfl, ?_⟩
    show V.nod _ = _
    repeat (first | refine jn_go ?_ | simp only [nod_agg, List.map_cons, nodL_imm, nodL_arr, nd_no, List.map_nil])
  · intro j c c' h1 h2
    rw [Nat.zero_add] at h1
    have : (flN l)[j]? = some c' := h2
    rw [h1] at this
    cases this
    exact .keep _ (flN_bel n l c (List.mem_of_getElem? h1))
theorem nilN {t : TypeId} {l : List Nu} {K : V → Prop} (h : l ≠ []) : aNilS (some (.slice t)) .eql (.arr (l.map nuV) .no) K = K (B false) := by simp [aNilS, h]
theorem appN {l : List Nu} {H : Hp} {KH : V → Hp → Prop} (h : l ≠ []) (hl : l.length ≤ 800) : aAppB 3 40 (.arr [] .full) (.arr (l.map nuV) .no) H KH = KH (.sl H.length 0 l.length l.length 3) (H ++ [.cells (flN l)]) := by
  have e1 : (l.map nuV ≠ []) = True := eq_true (by simp [h])
  have e2 : (∀ e, e ∈ l.map nuV → e.cl.length = 3 ∧ ∀ c, c ∈ e.cl → cellOk c = true) = True := eq_true (by
    intro e he
    obtain ⟨r, -, rfl⟩ := List.mem_map.1 he
    refine ⟨rfl, fun c hc => ?_⟩
    simp only [V.cl, List.mem_cons, List.not_mem_nil, or_false] at hc
    rcases hc with rfl | rfl | rfl <;> rfl)
  have e3 : ((l.map nuV).length * 40 ≤ 140737488355328) = True := eq_true (by rw [List.length_map]; omega)
  show ((l.map nuV ≠ []) ∧ (∀ e, e ∈ l.map nuV → e.cl.length = 3 ∧ ∀ c, c ∈ e.cl → cellOk c = true) ∧ ((l.map nuV).length * 40 ≤ 140737488355328) ∧ KH (.sl H.length 0 (l.map nuV).length (l.map nuV).length 3) (H ++ [.cells ((l.map nuV).flatMap V.cl)])) = _
  rw [e1, e2, e3, List.length_map, true_and, true_and, true_and]
  rfl
theorem c94 (l : List Nu) (H : Hp) (hn : l ≠ []) (hl : l.length ≤ 800) : RetE Try.prog 94 [seV l] H (fun v H' => v = .sl H.length 0 l.length l.length 3 ∧ H' = H ++ [.cells (flN l)]) := by
  refine mkE94b _ ?_
  simp only [vc94b, real]
  repeat (first | (with_reducible first | refine Ju.go ?_ | (refine Hd.go ?_; intro K Q hK hQ; simp only [nod_arr, nd_no, Try.underlying55, nilN hn, nod_imm, e_cond, Bool.false_eq_true, if_false, bs0, appN hn hl]; subst hK hQ) | refine Jr.go ?_) | refine sd ?_)
  exact ⟨rfl, rfl⟩
theorem c86 (l : List Nu) (H : Hp) (hn : l ≠ []) (hl : l.length ≤ 800) : Ret Try.prog 86 [seV l] H (seV l.reverse) H := by
  refine mk86 _ rfl (Nat.le_refl _) (.inl rfl) ?_
  simp only [vc86, real]
  repeat (first | (with_reducible first | refine Ju.go ?_ | (refine Hd.go ?_; intro K Q hK hQ; simp only [nod_arr, nd_no]; subst hK hQ) | refine Jr.go ?_) | refine sd ?_)
  refine callE_of (c94 l H hn hl) fun v H1 ⟨hv, hH⟩ => ?_
  subst hv hH
  repeat (first | (with_reducible first | refine Ju.go ?_ | (refine Hd.go ?_; intro K Q hK hQ; simp only [nod_sl]; subst hK hQ) | refine Jr.go ?_) | refine sd ?_)
  refine callE_of (c95 l _ H.length (tail0 _ _) hn hl) fun v H1 hH => ?_
  subst hH
  repeat (first | (with_reducible first | refine Ju.go ?_ | (refine Hd.go ?_; intro K Q hK hQ; simp only [Try.underlying3, Try.underlying4, Try.underlying5, Try.underlying9, Try.underlying29, Try.underlying57, Try.underlying55, j_one, j_side, j_tl, j_fl, nod_nod, nod_imm, nod_ints, nd_no, nd_own, nd_full, nd_fO, oF_ap, oF_succ, nod_sl, nod_ptr, nod_cptr, nod_fn, nod_junk, nodL_imm, nod_agg, nod_tup, nod2_imm, nod2_agg, cl_imm, cl_ints, cl_agg, e_add, e_sub, e_mul, e_quo, e_rem, e_eql, e_neq, e_lss, e_leq, e_gtr, e_geq, e_beq, e_bne, e_neg, e_not, e_pick, e_cond, e_gT, e_gF, e_len, e_lenA, e_lenS, e_ix, e_ixS, e_ldc, e_ldci, e_fa, rep_cl, rep_I, e_bx, okE_I, okE_B, okE_E8, okE_ints, stV_imm, stV_ints, j_and', j_or', List.getD_cons_zero, List.getD_cons_succ, List.map_cons, List.map_nil, decide_eq_true_eq, Int.toNat_natCast, Nat.mul_one, Nat.zero_add, true_and, and_true, List.length_map, Bool.not_eq_true', decide_eq_false_iff_not, nod_lists, e_lenL, e_ixL, okE_lists, bs1, bs1L, bs2L, e_app, e_appL, e_app0, e_app0L, e_slcLo, e_slcHi, e_slcLH, e_slcHH, e_slcLHH, e_callG, e_callY, e_calmG, e_slS0, e_slSLo, e_slSHi, e_slSLH, e_slSHH, e_slSLHH, e_max2, e_min2, e_max3, e_x20, e_x21, e_x30, e_x31, e_x32, nod2_ints, nod2_lists, rep_fl, bs0, e_nilE, if_true, if_false, cond_true, cond_false, decide_true, decide_false, eq_self, Bool.false_eq_true, false_implies, true_implies, ap_own, ap_full, e_slcLoL, e_slcHiL, e_slcLHL, hp_assoc, hp_cons, hp_nil, hp_len, hp_len_cons, hp_len_nil, lv_cons, lv_nil, vs_0, vs_s, spl_s, spl_0, spl_n, dr_s, dr_0, tk_s, tk_0, e_bxI, e_fac, e_facA, e_ldcA, e_ldcL, e_ldcF, okE_agg, ck_I, ck_B, ck_ints, ck_lists, ck_arr, ck_ptr, ck_cptr, ck_fn, all_c, all_n, stV_agg, stV_lists, stV_arr, stV_ptr, stV_cptr, stV_fn, nodL_ints, nodL_lists, nodL_ptr, nodL_cptr, nodL_fn, nodL_arr0, cl_arr, cl_ptr, cl_cptr, cl_fn, cl_lists, okE_arr, okE_fn, okE_ptr, okE_cptr, e_bd0, e_bd1, e_wr, Nat.reduceAdd, Nat.reduceLeDiff, Nat.reduceEqDiff, Nat.add_zero, Bool.and_self, Bool.true_and, Bool.and_true, e_lc0, e_lA0, e_lM0, e_sc0, e_rc0, e_rA0, e_lI0, e_sI0, e_cI0, e_lc1, e_lA1, e_lM1, e_sc1, e_rc1, e_rA1, e_lI1, e_sI1, e_cI1, e_lc2, e_lA2, e_lM2, e_sc2, e_rc2, e_rA2, e_lI2, e_sI2, e_cI2, e_lc3, e_lA3, e_lM3, e_sc3, e_rc3, e_rA3, e_lI3, e_sI3, e_cI3, e_lc4, e_lA4, e_lM4, e_sc4, e_rc4, e_rA4, e_lI4, e_sI4, e_cI4, e_lc5, e_lA5, e_lM5, e_sc5, e_rc5, e_rA5, e_lI5, e_sI5, e_cI5, own0_arr, own0_ints, own0_lists, own0_imm, own0_ptr, own0_cptr, own0_fn, own0_agg, e_appB, e_appB0, ck_sl, own0_sl, stV_sl, nodL_sl, cl_sl, okE_sl, e_mkM, e_mkI, e_mkIm, e_callB, nod_bfn, nod_ifc, nod_map, nodL_ifc, nodL_bfn, nodL_map, cl_ifc, cl_bfn, ck_ifc, ck_bfn, ck_map, stV_ifc, okE_ifc, okE_bfn, nod_arr, nodL_arr, e_addU, e_mulU, e_shrK, e_shlK, e_andK, e_cv64, e_cv32, e_callEG, e_callEY, e_callEB, e_zr, e_nilSl, e_ncP, e_ncC, e_npnP, e_npeP, e_npnC, e_npeC, e_npnN, e_npeN, e_ixAP, e_ldcP, e_ldcS, e_ldcV, e_ldcT, okE_nilP, ck_nilP, okE_nilI, ck_nilI, okE_str, ck_str, e_tlen, e_tix, e_teq, e_tne, e_tadd, e_tb, e_u8lss, e_u8gtr, noV_full, nod_arr, List.length_map, reduceIte, Int.reduceEq, Int.reduceNeg, ne_eq, not_true_eq_false, not_false_eq_true, Bool.not_true, Bool.not_false, Bool.true_or, Bool.or_true, Bool.false_or, Bool.or_false, Bool.and_true, Bool.and_false, Bool.false_and, Bool.not_not, Bool.or_self, List.length_nil, Int.ofNat_zero, Int.cast_ofNat_Int, Int.natCast_zero, beq_self_eq_true, Bool.true_eq_false]; subst hK hQ) | refine Jr.go ?_) | refine sd ?_)
  rw [set0]
  have f := fz_nu (n := H.length) (H := H ++ [.cells (flN l.reverse)]) (l := l.reverse) (Nat.le_refl _) (by rw [tail0]; rfl)
  rw [List.length_reverse] at f
  exact end1T f (by simp)
theorem c87 (r : Nu) (n : Int) (H : Hp) : Ret Try.prog 87 [nuV r, .cptr (I n)] H (B (decide (r.b ≤ n))) H := by
  refine mk87 _ _ rfl (Nat.le_refl _) (.inl rfl) ?_
  simp only [vc87, real]
  repeat (first | (with_reducible first | refine Ju.go ?_ | (refine Hd.go ?_; intro K Q hK hQ; simp only [nod_agg, List.map_cons, nodL_imm, nodL_arr, nd_no, List.map_nil, e_bxI, okE_agg, lv_cons, List.length_nil, Nat.zero_add, Nat.reduceAdd, all_c, ck_I, ck_arr, all_n, Bool.and_self, and_true, true_and, nod_cptr, e_fac, Nat.reduceLeDiff, List.getD_cons_zero, e_ldc, nod_imm, Try.underlying3, e_leq]; subst hK hQ) | refine Jr.go ?_) | refine sd ?_)
  exact end1 (fzI _)
theorem c85 (l : List Nu) (n : Int) (H : Hp) (hl : l.length ≤ 800) : Ret Try.prog 85 [seV l, .fn 87 [.cptr (I n)]] H (I (idxI (fun r => decide (r.b ≤ n)) l)) H := by
  refine mk85 _ _ rfl (Nat.le_refl _) (.inl rfl) ?_
  simp only [vc85, real]
  repeat (first | (with_reducible first | refine Ju.go ?_ | (refine Hd.go ?_; intro K Q hK hQ; simp only [nod_arr, nd_no, e_lenA, List.length_map]; subst hK hQ) | refine Jr.go ?_) | refine sd ?_)
  refine loop_of (fun i : Nat => i ≤ l.length ∧ ∀ (j : Nat) (y : Nu), j < i → l[j]? = some y → decide (y.b ≤ n) = false) (fun i => [seV l, .fn 87 [.cptr (I n)], I l.length, I i]) (fun _ => H) (fun i => l.length - i) 0 ⟨Nat.zero_le _, fun j y h => absurd h (Nat.not_lt_zero _)⟩ rfl rfl ?_
  intro i ⟨hi, hp⟩
  repeat (first | (with_reducible first | refine Ju.go ?_ | (refine Hd.go ?_; intro K Q hK hQ; simp only [List.getD_cons_succ, List.getD_cons_zero, nod_imm, Try.underlying3, e_lss, e_cond, decide_eq_true_eq]; subst hK hQ) | refine Jr.go ?_) | refine sd ?_)
  by_cases hlt : i < l.length
  · have d : (i : Int) < l.length := by omega
    have hg := getD_someA l default hlt
    repeat (first | (with_reducible first | refine Ju.go ?_ | (refine Hd.go ?_; intro K Q hK hQ; simp only [d, if_true, List.getD_cons_zero, nod_arr, nd_no, List.getD_cons_succ, nod_imm, ix_nu, Int.toNat_natCast, true_and, nod_cptr, e_ldcA, lv_cons, List.length_nil, Nat.zero_add, Nat.reduceAdd, nod_fn, nod_agg, List.map_cons, nodL_imm, nodL_arr, List.map_nil, e_callEG]; subst hK hQ) | refine Jr.go ?_) | refine sd ?_)
    generalize l.getD i default = r at *
    refine call_of (c87 r n _) ?_
    by_cases hb : r.b ≤ n
    · rw [decide_eq_true hb]
      repeat (first | (with_reducible first | refine Ju.go ?_ | (refine Hd.go ?_; intro K Q hK hQ; simp only [nod_imm, e_cond, if_true]; subst hK hQ) | refine Jr.go ?_) | refine sd ?_)
      rw [idxI_at _ l i _ hg (decide_eq_true hb) hp]
      exact end1 (fzI _)
    · rw [decide_eq_false hb]
      repeat (first | (with_reducible first | refine Ju.go ?_ | (refine Hd.go ?_; intro K Q hK hQ; simp only [nod_imm, e_cond, Bool.false_eq_true, if_false, List.getD_cons_succ, List.getD_cons_zero, Try.underlying3, e_add]; subst hK hQ) | refine Jr.go ?_) | refine sd ?_)
      refine ⟨i + 1, ⟨by omega, fun j y hj hy => ?_⟩, rfl, rfl, by omega⟩
      by_cases e : j = i
      · subst e
        rw [hg] at hy
        cases hy
        exact decide_eq_false hb
      · exact hp j y (by omega) hy
  · have d : ¬ (i : Int) < l.length := by omega
    repeat (first | (with_reducible first | refine Ju.go ?_ | (refine Hd.go ?_; intro K Q hK hQ; simp only [d, if_false]; subst hK hQ) | refine Jr.go ?_) | refine sd ?_)
    rw [idxI_none _ l (fun j y hy => hp j y (by have := (List.getElem?_eq_some_iff.1 hy).1; omega) hy)]
    exact end1 (fzI _)
theorem idxI_bd {α : Type} (p : α → Bool) (l : List α) : -1 ≤ idxI p l ∧ idxI p l < l.length := by
  unfold idxI
  cases h : l.findIdx? p with
  | none => simp only []; omega
  | some i =>
    rw [List.findIdx?_eq_some_iff_getElem] at h
    obtain ⟨hi, -⟩ := h
    simp only []; omega
def ruI (l : List Nu) (n : Int) : Int := (l.length : Int) - 1 - idxI (fun r => decide (r.b ≤ n)) l.reverse
theorem c77 (s : Sy) (t n : Int) (H : Hp) (h0 : 0 ≤ t) (h1 : t < s.se.length) (hn : s.se.getD t.toNat [] ≠ []) (hl : (s.se.getD t.toNat []).length ≤ 800) : Ret Try.prog 77 [syV s, I t, I n] H (I (ruI (s.se.getD t.toNat []) n)) H := by
  have hb := idxI_bd (fun r : Nu => decide (r.b ≤ n)) (s.se.getD t.toNat []).reverse
  rw [List.length_reverse] at hb
  refine mk77 _ _ _ rfl (Nat.le_refl _) (.inl rfl) ?_
  simp only [vc77, real]
  repeat (first | (with_reducible first | refine Ju.go ?_ | (refine Hd.go ?_; intro K Q hK hQ; simp only [nod_agg, List.map_cons, nodL_imm, nodL_arr, nd_no, List.map_nil, e_bxI, okE_agg, lv_cons, List.length_nil, Nat.zero_add, Nat.reduceAdd, all_c, ck_I, ck_arr, all_n, Bool.and_self, and_true, true_and, nod_imm, okE_I, nod_cptr, e_facA, Nat.reduceLeDiff, dr_0, tk_s, tk_0, e_fac, List.getD_cons_succ, List.getD_cons_zero, e_ldcV, nod_arr, ix_se, h0, h1, e_lenA, List.length_map, Try.underlying3, e_sub]; subst hK hQ) | refine Jr.go ?_) | refine sd ?_)
  refine calm_of (fun H => c86 _ H hn hl) ?_
  repeat (first | (with_reducible first | refine Ju.go ?_ | (refine Hd.go ?_; intro K Q hK hQ; simp only [nod_arr, nd_no, nod_cptr]; subst hK hQ) | refine Jr.go ?_) | refine sd ?_)
  refine calm_of (fun H => c85 _ n H (by rw [List.length_reverse]; exact hl)) ?_
  repeat (first | (with_reducible first | refine Ju.go ?_ | (refine Hd.go ?_; intro K Q hK hQ; simp only [nod_imm, Try.underlying3, e_sub]; subst hK hQ) | refine Jr.go ?_) | refine sd ?_)
  exact end1 (fzI _)
end Go.Proofs.Ytgodfjbmblghnaa

set_option linter.unusedVariables false
set_option maxRecDepth 20000
set_option maxHeartbeats 4000000
namespace Go.Proofs.Ytgodfjbmblghnaa
open Go Go.Ab Go.Proofs
def an84 : An := { imm := [4, 5], jn := [(2, [3, 4, 5, 9]), (3, [3, 4, 5, 9, 10]), (5, [3, 4, 9, 10]), (8, [3, 4, 9, 10]), (13, [3, 4, 9, 70, 71, 72, 88])], lp := [(9, [3, 4, 9, 70, 71, 72])], loud := [79, 87], ord := [(4, [(6, 11), (8, 11)], [[0, 1, 2, 3, 4, 5, 7, 10, 11, 6, 8, 9, 12, 13], [0, 1, 2, 3, 4, 5, 6, 7, 10, 11, 8, 9, 12, 13], [0, 1, 2, 3, 4, 5, 7, 8, 10, 11, 6, 9, 12, 13], [0, 1, 2, 3, 4, 5, 6, 7, 8, 9, 10, 11, 12, 13]]), (12, [(0, 2), (0, 4), (0, 5), (0, 6)], [[1, 2, 4, 5, 6, 0, 3, 7, 8, 9], [1, 4, 5, 6, 0, 2, 3, 7, 8, 9], [1, 2, 5, 6, 0, 3, 4, 7, 8, 9], [1, 5, 6, 0, 2, 3, 4, 7, 8, 9], [1, 2, 4, 6, 0, 3, 5, 7, 8, 9], [1, 4, 6, 0, 2, 3, 5, 7, 8, 9], [1, 2, 6, 0, 3, 4, 5, 7, 8, 9], [1, 6, 0, 2, 3, 4, 5, 7, 8, 9], [1, 2, 4, 5, 0, 3, 6, 7, 8, 9], [1, 4, 5, 0, 2, 3, 6, 7, 8, 9], [1, 2, 5, 0, 3, 4, 6, 7, 8, 9], [1, 5, 0, 2, 3, 4, 6, 7, 8, 9], [1, 2, 4, 0, 3, 5, 6, 7, 8, 9], [1, 4, 0, 2, 3, 5, 6, 7, 8, 9], [1, 2, 0, 3, 4, 5, 6, 7, 8, 9], [0, 1, 2, 3, 4, 5, 6, 7, 8, 9]])] }
def vc84 (C : Cb) (a0 a1 a2 a3 : V) (H : Hp) (R : List V → Hp → Prop) : Prop :=
 C.aBx true 7 a0.nod H fun v1 H2 =>
 C.aBx true 4 a1.nod H2 fun v3 H4 =>
 Jn (fun l5 H6 =>
 Jn (fun l8 H9 =>
 Jn (fun l11 H12 =>
 Jn (fun l14 H15 =>
 C.aFA 2 1 false (l14.getD 3 .junk).nod fun v17 =>
 C.aLd 1 false false v17.nod H15 fun v18 H19 =>
 C.aLen v18.nod fun v20 =>
 LoopA (fun l21 H22 K23 =>
 C.aBin (Try.prog.underlying 3) .lss (l21.getD 5 .junk).nod (l21.getD 4 .junk).nod fun v24 =>
 aCond v24.nod (
 C.aIx 4 (l21.getD 3 .junk).nod (l21.getD 5 .junk).nod fun v25 =>
 C.aLd 4 true false v25.nod H22 fun v26 H27 =>
 C.aBx false 4 (V.agg [(I 0), (I 0), (I 0), (I 0)]) H27 fun v28 H29 =>
 C.aSt 4 v28.nod v26 H29 fun v30 H31 =>
 C.aFA 5 1 false (l21.getD 2 .junk).nod fun v32 =>
 C.aSt 1 v32.nod (l21.getD 5 .junk).nod.nod H31 fun v33 H34 =>
 Jn (fun l35 H36 =>
 aCond (l35.getD 6 .junk).nod (
 R [(B false)] H36) (
 C.aBin (Try.prog.underlying 3) .add (l35.getD 5 .junk).nod (I 1) fun v38 =>
 K23 [(l35.getD 0 .junk), (l35.getD 1 .junk), (l35.getD 2 .junk), (l35.getD 3 .junk), (l35.getD 4 .junk), v38.nod] H36))
 (fun R37 =>
 (C.aFA 0 1 false v28.nod fun v39 =>
 C.aLd 1 false false v39.nod H34 fun v40 H41 =>
 C.aLd 7 true false (l21.getD 1 .junk).nod H41 fun v42 H43 =>
 C.aLd 10 true false (l21.getD 2 .junk).nod H43 fun v44 H45 =>
 C.aLd 4 true false v28.nod H45 fun v46 H47 =>
 C.call 93 [] H47 fun v48 H49 =>
 C.aLkp 57 (V.imm .nilFunc) false v48.nod v40.nod H49 fun v50 =>
 aCallG C v50.nod [v42.nod, v44.nod, v46.nod, (l21.getD 0 .junk).nod.nod] H49 fun v51 H52 =>
 C.aUn .not v51.nod fun v53 =>
 R37 [(l21.getD 0 .junk), (l21.getD 1 .junk), (l21.getD 2 .junk), (l21.getD 3 .junk), (l21.getD 4 .junk), (l21.getD 5 .junk), v53] H52) ∧ (C.aFA 0 1 false v28.nod fun v54 =>
 C.aLd 7 true false (l21.getD 1 .junk).nod H34 fun v55 H56 =>
 C.aLd 10 true false (l21.getD 2 .junk).nod H56 fun v57 H58 =>
 C.aLd 4 true false v28.nod H58 fun v59 H60 =>
 C.call 93 [] H60 fun v61 H62 =>
 C.aLd 1 false false v54.nod H62 fun v63 H64 =>
 C.aLkp 57 (V.imm .nilFunc) false v61.nod v63.nod H64 fun v65 =>
 aCallG C v65.nod [v55.nod, v57.nod, v59.nod, (l21.getD 0 .junk).nod.nod] H64 fun v66 H67 =>
 C.aUn .not v66.nod fun v68 =>
 R37 [(l21.getD 0 .junk), (l21.getD 1 .junk), (l21.getD 2 .junk), (l21.getD 3 .junk), (l21.getD 4 .junk), (l21.getD 5 .junk), v68] H67) ∧ (C.aFA 0 1 false v28.nod fun v69 =>
 C.aLd 1 false false v69.nod H34 fun v70 H71 =>
 C.aLd 10 true false (l21.getD 2 .junk).nod H71 fun v72 H73 =>
 C.aLd 4 true false v28.nod H73 fun v74 H75 =>
 C.call 93 [] H75 fun v76 H77 =>
 C.aLkp 57 (V.imm .nilFunc) false v76.nod v70.nod H77 fun v78 =>
 C.aLd 7 true false (l21.getD 1 .junk).nod H77 fun v79 H80 =>
 aCallG C v78.nod [v79.nod, v72.nod, v74.nod, (l21.getD 0 .junk).nod.nod] H80 fun v81 H82 =>
 C.aUn .not v81.nod fun v83 =>
 R37 [(l21.getD 0 .junk), (l21.getD 1 .junk), (l21.getD 2 .junk), (l21.getD 3 .junk), (l21.getD 4 .junk), (l21.getD 5 .junk), v83] H82) ∧ (C.aFA 0 1 false v28.nod fun v84 =>
 C.aLd 10 true false (l21.getD 2 .junk).nod H34 fun v85 H86 =>
 C.aLd 4 true false v28.nod H86 fun v87 H88 =>
 C.call 93 [] H88 fun v89 H90 =>
 C.aLd 1 false false v84.nod H90 fun v91 H92 =>
 C.aLkp 57 (V.imm .nilFunc) false v89.nod v91.nod H92 fun v93 =>
 C.aLd 7 true false (l21.getD 1 .junk).nod H92 fun v94 H95 =>
 aCallG C v93.nod [v94.nod, v85.nod, v87.nod, (l21.getD 0 .junk).nod.nod] H95 fun v96 H97 =>
 C.aUn .not v96.nod fun v98 =>
 R37 [(l21.getD 0 .junk), (l21.getD 1 .junk), (l21.getD 2 .junk), (l21.getD 3 .junk), (l21.getD 4 .junk), (l21.getD 5 .junk), v98] H97) ∧ (C.aFA 0 1 false v28.nod fun v99 =>
 C.aLd 1 false false v99.nod H34 fun v100 H101 =>
 C.aLd 7 true false (l21.getD 1 .junk).nod H101 fun v102 H103 =>
 C.aLd 4 true false v28.nod H103 fun v104 H105 =>
 C.call 93 [] H105 fun v106 H107 =>
 C.aLkp 57 (V.imm .nilFunc) false v106.nod v100.nod H107 fun v108 =>
 C.aLd 10 true false (l21.getD 2 .junk).nod H107 fun v109 H110 =>
 aCallG C v108.nod [v102.nod, v109.nod, v104.nod, (l21.getD 0 .junk).nod.nod] H110 fun v111 H112 =>
 C.aUn .not v111.nod fun v113 =>
 R37 [(l21.getD 0 .junk), (l21.getD 1 .junk), (l21.getD 2 .junk), (l21.getD 3 .junk), (l21.getD 4 .junk), (l21.getD 5 .junk), v113] H112) ∧ (C.aFA 0 1 false v28.nod fun v114 =>
 C.aLd 7 true false (l21.getD 1 .junk).nod H34 fun v115 H116 =>
 C.aLd 4 true false v28.nod H116 fun v117 H118 =>
 C.call 93 [] H118 fun v119 H120 =>
 C.aLd 1 false false v114.nod H120 fun v121 H122 =>
 C.aLkp 57 (V.imm .nilFunc) false v119.nod v121.nod H122 fun v123 =>
 C.aLd 10 true false (l21.getD 2 .junk).nod H122 fun v124 H125 =>
 aCallG C v123.nod [v115.nod, v124.nod, v117.nod, (l21.getD 0 .junk).nod.nod] H125 fun v126 H127 =>
 C.aUn .not v126.nod fun v128 =>
 R37 [(l21.getD 0 .junk), (l21.getD 1 .junk), (l21.getD 2 .junk), (l21.getD 3 .junk), (l21.getD 4 .junk), (l21.getD 5 .junk), v128] H127) ∧ (C.aFA 0 1 false v28.nod fun v129 =>
 C.aLd 1 false false v129.nod H34 fun v130 H131 =>
 C.aLd 4 true false v28.nod H131 fun v132 H133 =>
 C.call 93 [] H133 fun v134 H135 =>
 C.aLkp 57 (V.imm .nilFunc) false v134.nod v130.nod H135 fun v136 =>
 C.aLd 7 true false (l21.getD 1 .junk).nod H135 fun v137 H138 =>
 C.aLd 10 true false (l21.getD 2 .junk).nod H138 fun v139 H140 =>
 aCallG C v136.nod [v137.nod, v139.nod, v132.nod, (l21.getD 0 .junk).nod.nod] H140 fun v141 H142 =>
 C.aUn .not v141.nod fun v143 =>
 R37 [(l21.getD 0 .junk), (l21.getD 1 .junk), (l21.getD 2 .junk), (l21.getD 3 .junk), (l21.getD 4 .junk), (l21.getD 5 .junk), v143] H142) ∧ (C.aFA 0 1 false v28.nod fun v144 =>
 C.aLd 4 true false v28.nod H34 fun v145 H146 =>
 C.call 93 [] H146 fun v147 H148 =>
 C.aLd 1 false false v144.nod H148 fun v149 H150 =>
 C.aLkp 57 (V.imm .nilFunc) false v147.nod v149.nod H150 fun v151 =>
 C.aLd 7 true false (l21.getD 1 .junk).nod H150 fun v152 H153 =>
 C.aLd 10 true false (l21.getD 2 .junk).nod H153 fun v154 H155 =>
 aCallG C v151.nod [v152.nod, v154.nod, v145.nod, (l21.getD 0 .junk).nod.nod] H155 fun v156 H157 =>
 C.aUn .not v156.nod fun v158 =>
 R37 [(l21.getD 0 .junk), (l21.getD 1 .junk), (l21.getD 2 .junk), (l21.getD 3 .junk), (l21.getD 4 .junk), (l21.getD 5 .junk), v158] H157) ∧ (C.aFA 0 1 false v28.nod fun v159 =>
 C.aLd 1 false false v159.nod H34 fun v160 H161 =>
 C.aLd 7 true false (l21.getD 1 .junk).nod H161 fun v162 H163 =>
 C.aLd 10 true false (l21.getD 2 .junk).nod H163 fun v164 H165 =>
 C.call 93 [] H165 fun v166 H167 =>
 C.aLkp 57 (V.imm .nilFunc) false v166.nod v160.nod H167 fun v168 =>
 C.aLd 4 true false v28.nod H167 fun v169 H170 =>
 aCallG C v168.nod [v162.nod, v164.nod, v169.nod, (l21.getD 0 .junk).nod.nod] H170 fun v171 H172 =>
 C.aUn .not v171.nod fun v173 =>
 R37 [(l21.getD 0 .junk), (l21.getD 1 .junk), (l21.getD 2 .junk), (l21.getD 3 .junk), (l21.getD 4 .junk), (l21.getD 5 .junk), v173] H172) ∧ (C.aFA 0 1 false v28.nod fun v174 =>
 C.aLd 7 true false (l21.getD 1 .junk).nod H34 fun v175 H176 =>
 C.aLd 10 true false (l21.getD 2 .junk).nod H176 fun v177 H178 =>
 C.call 93 [] H178 fun v179 H180 =>
 C.aLd 1 false false v174.nod H180 fun v181 H182 =>
 C.aLkp 57 (V.imm .nilFunc) false v179.nod v181.nod H182 fun v183 =>
 C.aLd 4 true false v28.nod H182 fun v184 H185 =>
 aCallG C v183.nod [v175.nod, v177.nod, v184.nod, (l21.getD 0 .junk).nod.nod] H185 fun v186 H187 =>
 C.aUn .not v186.nod fun v188 =>
 R37 [(l21.getD 0 .junk), (l21.getD 1 .junk), (l21.getD 2 .junk), (l21.getD 3 .junk), (l21.getD 4 .junk), (l21.getD 5 .junk), v188] H187) ∧ (C.aFA 0 1 false v28.nod fun v189 =>
 C.aLd 1 false false v189.nod H34 fun v190 H191 =>
 C.aLd 10 true false (l21.getD 2 .junk).nod H191 fun v192 H193 =>
 C.call 93 [] H193 fun v194 H195 =>
 C.aLkp 57 (V.imm .nilFunc) false v194.nod v190.nod H195 fun v196 =>
 C.aLd 7 true false (l21.getD 1 .junk).nod H195 fun v197 H198 =>
 C.aLd 4 true false v28.nod H198 fun v199 H200 =>
 aCallG C v196.nod [v197.nod, v192.nod, v199.nod, (l21.getD 0 .junk).nod.nod] H200 fun v201 H202 =>
 C.aUn .not v201.nod fun v203 =>
 R37 [(l21.getD 0 .junk), (l21.getD 1 .junk), (l21.getD 2 .junk), (l21.getD 3 .junk), (l21.getD 4 .junk), (l21.getD 5 .junk), v203] H202) ∧ (C.aFA 0 1 false v28.nod fun v204 =>
 C.aLd 10 true false (l21.getD 2 .junk).nod H34 fun v205 H206 =>
 C.call 93 [] H206 fun v207 H208 =>
 C.aLd 1 false false v204.nod H208 fun v209 H210 =>
 C.aLkp 57 (V.imm .nilFunc) false v207.nod v209.nod H210 fun v211 =>
 C.aLd 7 true false (l21.getD 1 .junk).nod H210 fun v212 H213 =>
 C.aLd 4 true false v28.nod H213 fun v214 H215 =>
 aCallG C v211.nod [v212.nod, v205.nod, v214.nod, (l21.getD 0 .junk).nod.nod] H215 fun v216 H217 =>
 C.aUn .not v216.nod fun v218 =>
 R37 [(l21.getD 0 .junk), (l21.getD 1 .junk), (l21.getD 2 .junk), (l21.getD 3 .junk), (l21.getD 4 .junk), (l21.getD 5 .junk), v218] H217) ∧ (C.aFA 0 1 false v28.nod fun v219 =>
 C.aLd 1 false false v219.nod H34 fun v220 H221 =>
 C.aLd 7 true false (l21.getD 1 .junk).nod H221 fun v222 H223 =>
 C.call 93 [] H223 fun v224 H225 =>
 C.aLkp 57 (V.imm .nilFunc) false v224.nod v220.nod H225 fun v226 =>
 C.aLd 10 true false (l21.getD 2 .junk).nod H225 fun v227 H228 =>
 C.aLd 4 true false v28.nod H228 fun v229 H230 =>
 aCallG C v226.nod [v222.nod, v227.nod, v229.nod, (l21.getD 0 .junk).nod.nod] H230 fun v231 H232 =>
 C.aUn .not v231.nod fun v233 =>
 R37 [(l21.getD 0 .junk), (l21.getD 1 .junk), (l21.getD 2 .junk), (l21.getD 3 .junk), (l21.getD 4 .junk), (l21.getD 5 .junk), v233] H232) ∧ (C.aFA 0 1 false v28.nod fun v234 =>
 C.aLd 7 true false (l21.getD 1 .junk).nod H34 fun v235 H236 =>
 C.call 93 [] H236 fun v237 H238 =>
 C.aLd 1 false false v234.nod H238 fun v239 H240 =>
 C.aLkp 57 (V.imm .nilFunc) false v237.nod v239.nod H240 fun v241 =>
 C.aLd 10 true false (l21.getD 2 .junk).nod H240 fun v242 H243 =>
 C.aLd 4 true false v28.nod H243 fun v244 H245 =>
 aCallG C v241.nod [v235.nod, v242.nod, v244.nod, (l21.getD 0 .junk).nod.nod] H245 fun v246 H247 =>
 C.aUn .not v246.nod fun v248 =>
 R37 [(l21.getD 0 .junk), (l21.getD 1 .junk), (l21.getD 2 .junk), (l21.getD 3 .junk), (l21.getD 4 .junk), (l21.getD 5 .junk), v248] H247) ∧ (C.aFA 0 1 false v28.nod fun v249 =>
 C.aLd 1 false false v249.nod H34 fun v250 H251 =>
 C.call 93 [] H251 fun v252 H253 =>
 C.aLkp 57 (V.imm .nilFunc) false v252.nod v250.nod H253 fun v254 =>
 C.aLd 7 true false (l21.getD 1 .junk).nod H253 fun v255 H256 =>
 C.aLd 10 true false (l21.getD 2 .junk).nod H256 fun v257 H258 =>
 C.aLd 4 true false v28.nod H258 fun v259 H260 =>
 aCallG C v254.nod [v255.nod, v257.nod, v259.nod, (l21.getD 0 .junk).nod.nod] H260 fun v261 H262 =>
 C.aUn .not v261.nod fun v263 =>
 R37 [(l21.getD 0 .junk), (l21.getD 1 .junk), (l21.getD 2 .junk), (l21.getD 3 .junk), (l21.getD 4 .junk), (l21.getD 5 .junk), v263] H262) ∧ (C.call 93 [] H34 fun v264 H265 =>
 C.aFA 0 1 false v28.nod fun v266 =>
 C.aLd 1 false false v266.nod H265 fun v267 H268 =>
 C.aLkp 57 (V.imm .nilFunc) false v264.nod v267.nod H268 fun v269 =>
 C.aLd 7 true false (l21.getD 1 .junk).nod H268 fun v270 H271 =>
 C.aLd 10 true false (l21.getD 2 .junk).nod H271 fun v272 H273 =>
 C.aLd 4 true false v28.nod H273 fun v274 H275 =>
 aCallG C v269.nod [v270.nod, v272.nod, v274.nod, (l21.getD 0 .junk).nod.nod] H275 fun v276 H277 =>
 C.aUn .not v276.nod fun v278 =>
 R37 [(l21.getD 0 .junk), (l21.getD 1 .junk), (l21.getD 2 .junk), (l21.getD 3 .junk), (l21.getD 4 .junk), (l21.getD 5 .junk), v278] H277))) (
 R [(B true)] H22))
 [(l14.getD 0 .junk), (l14.getD 1 .junk), (l14.getD 2 .junk), v18, v20, (I 0)] H19)
 (fun R16 =>
 C.aFA 2 1 false (l11.getD 3 .junk).nod fun v279 =>
 C.aLd 1 false false v279.nod H12 fun v280 H281 =>
 C.callE 91 [v280.nod, (V.fn 92 [])] H281 fun v282 H283 =>
 C.aBin (Try.prog.underlying 3) .geq v282.nod.nod (I 0) fun v284 =>
 aCond v284.nod (
 C.aFA 0 7 true (l11.getD 1 .junk).nod fun v285 =>
 C.aFA 4 1 false v285.nod fun v286 =>
 C.aLd 1 false false v286.nod H283 fun v287 H288 =>
 C.aFA 2 1 false (l11.getD 3 .junk).nod fun v289 =>
 C.aLd 1 false false v289.nod H288 fun v290 H291 =>
 C.aIx 4 v290.nod v282.nod.nod fun v292 =>
 C.aFA 1 1 false v292.nod fun v293 =>
 C.aLd 1 false false v293.nod H291 fun v294 H295 =>
 C.aIx 2 v287.nod v294.nod fun v296 =>
 C.aFA 0 1 false v296.nod fun v297 =>
 C.aLd 1 false false v297.nod H295 fun v298 H299 =>
 C.aFA 9 1 false (l11.getD 2 .junk).nod fun v300 =>
 C.aSt 1 v300.nod v298 H299 fun v301 H302 =>
 R16 [(l11.getD 0 .junk), (l11.getD 1 .junk), (l11.getD 2 .junk), (l11.getD 3 .junk)] H302) (
 R16 [(l11.getD 0 .junk), (l11.getD 1 .junk), (l11.getD 2 .junk), (l11.getD 3 .junk)] H283)))
 (fun R13 =>
 C.aFA 1 1 false (l8.getD 4 .junk).nod fun v303 =>
 C.aLd 1 false false v303.nod H9 fun v304 H305 =>
 C.aBin (Try.prog.underlying 3) .gtr v304.nod (I 0) fun v306 =>
 aCond v306.nod (
 (C.aFA 0 1 false (l8.getD 2 .junk).nod fun v307 =>
 C.aLd 1 false false v307.nod H305 fun v308 H309 =>
 C.aFA 1 1 false (l8.getD 4 .junk).nod fun v310 =>
 C.aLd 1 false false v310.nod H309 fun v311 H312 =>
 C.aBin (Try.prog.underlying 3) .quo v308.nod v311.nod fun v313 =>
 C.aFA 0 1 false (l8.getD 2 .junk).nod fun v314 =>
 C.aFA 1 1 false (l8.getD 4 .junk).nod fun v315 =>
 C.aFA 7 1 false (l8.getD 3 .junk).nod fun v316 =>
 C.aSt 1 v316.nod v313 H312 fun v317 H318 =>
 C.aLd 1 false false v314.nod H318 fun v319 H320 =>
 C.aLd 1 false false v315.nod H320 fun v321 H322 =>
 C.aBin (Try.prog.underlying 3) .rem v319.nod v321.nod fun v323 =>
 C.aFA 8 1 false (l8.getD 3 .junk).nod fun v324 =>
 C.aSt 1 v324.nod v323 H322 fun v325 H326 =>
 R13 [(l8.getD 0 .junk), (l8.getD 1 .junk), (l8.getD 3 .junk), (l8.getD 4 .junk)] H326) ∧ (C.aFA 0 1 false (l8.getD 2 .junk).nod fun v327 =>
 C.aLd 1 false false v327.nod H305 fun v328 H329 =>
 C.aFA 1 1 false (l8.getD 4 .junk).nod fun v330 =>
 C.aLd 1 false false v330.nod H329 fun v331 H332 =>
 C.aBin (Try.prog.underlying 3) .quo v328.nod v331.nod fun v333 =>
 C.aFA 0 1 false (l8.getD 2 .junk).nod fun v334 =>
 C.aLd 1 false false v334.nod H332 fun v335 H336 =>
 C.aFA 1 1 false (l8.getD 4 .junk).nod fun v337 =>
 C.aFA 7 1 false (l8.getD 3 .junk).nod fun v338 =>
 C.aSt 1 v338.nod v333 H336 fun v339 H340 =>
 C.aLd 1 false false v337.nod H340 fun v341 H342 =>
 C.aBin (Try.prog.underlying 3) .rem v335.nod v341.nod fun v343 =>
 C.aFA 8 1 false (l8.getD 3 .junk).nod fun v344 =>
 C.aSt 1 v344.nod v343 H342 fun v345 H346 =>
 R13 [(l8.getD 0 .junk), (l8.getD 1 .junk), (l8.getD 3 .junk), (l8.getD 4 .junk)] H346) ∧ (C.aFA 0 1 false (l8.getD 2 .junk).nod fun v347 =>
 C.aLd 1 false false v347.nod H305 fun v348 H349 =>
 C.aFA 1 1 false (l8.getD 4 .junk).nod fun v350 =>
 C.aLd 1 false false v350.nod H349 fun v351 H352 =>
 C.aBin (Try.prog.underlying 3) .quo v348.nod v351.nod fun v353 =>
 C.aFA 0 1 false (l8.getD 2 .junk).nod fun v354 =>
 C.aFA 1 1 false (l8.getD 4 .junk).nod fun v355 =>
 C.aLd 1 false false v355.nod H352 fun v356 H357 =>
 C.aFA 7 1 false (l8.getD 3 .junk).nod fun v358 =>
 C.aSt 1 v358.nod v353 H357 fun v359 H360 =>
 C.aLd 1 false false v354.nod H360 fun v361 H362 =>
 C.aBin (Try.prog.underlying 3) .rem v361.nod v356.nod fun v363 =>
 C.aFA 8 1 false (l8.getD 3 .junk).nod fun v364 =>
 C.aSt 1 v364.nod v363 H362 fun v365 H366 =>
 R13 [(l8.getD 0 .junk), (l8.getD 1 .junk), (l8.getD 3 .junk), (l8.getD 4 .junk)] H366) ∧ (C.aFA 0 1 false (l8.getD 2 .junk).nod fun v367 =>
 C.aLd 1 false false v367.nod H305 fun v368 H369 =>
 C.aFA 1 1 false (l8.getD 4 .junk).nod fun v370 =>
 C.aLd 1 false false v370.nod H369 fun v371 H372 =>
 C.aBin (Try.prog.underlying 3) .quo v368.nod v371.nod fun v373 =>
 C.aFA 0 1 false (l8.getD 2 .junk).nod fun v374 =>
 C.aLd 1 false false v374.nod H372 fun v375 H376 =>
 C.aFA 1 1 false (l8.getD 4 .junk).nod fun v377 =>
 C.aLd 1 false false v377.nod H376 fun v378 H379 =>
 C.aBin (Try.prog.underlying 3) .rem v375.nod v378.nod fun v380 =>
 C.aFA 7 1 false (l8.getD 3 .junk).nod fun v381 =>
 C.aSt 1 v381.nod v373 H379 fun v382 H383 =>
 C.aFA 8 1 false (l8.getD 3 .junk).nod fun v384 =>
 C.aSt 1 v384.nod v380 H383 fun v385 H386 =>
 R13 [(l8.getD 0 .junk), (l8.getD 1 .junk), (l8.getD 3 .junk), (l8.getD 4 .junk)] H386)) (
 R13 [(l8.getD 0 .junk), (l8.getD 1 .junk), (l8.getD 3 .junk), (l8.getD 4 .junk)] H305)))
 (fun R10 =>
 C.aFA 0 7 true (l5.getD 1 .junk).nod fun v387 =>
 C.aFA 6 1 false v387.nod fun v388 =>
 C.aLd 1 false false v388.nod H6 fun v389 H390 =>
 C.aFA 1 1 false (l5.getD 2 .junk).nod fun v391 =>
 C.aLd 1 false false v391.nod H390 fun v392 H393 =>
 C.aIx 1 v389.nod v392.nod fun v394 =>
 C.aLd 1 false false v394.nod H393 fun v395 H396 =>
 C.aFA 4 1 false (l5.getD 3 .junk).nod fun v397 =>
 C.aLd 1 false false v397.nod H396 fun v398 H399 =>
 C.aIx 3 v395.nod v398.nod fun v400 =>
 C.aLd 3 true false v400.nod H399 fun v401 H402 =>
 C.aBx false 3 (V.agg [(I 0), (I 0), (V.arr [] .full)]) H402 fun v403 H404 =>
 C.aSt 3 v403.nod v401 H404 fun v405 H406 =>
 R10 [(l5.getD 0 .junk), (l5.getD 1 .junk), (l5.getD 2 .junk), (l5.getD 3 .junk), v403] H406))
 (fun R7 =>
 C.aLd 4 true false v3.nod H4 fun v407 H408 =>
 C.aLd 7 true false v1.nod H408 fun v409 H410 =>
 C.aFA 1 1 false v3.nod fun v411 =>
 C.aLd 1 false false v411.nod H410 fun v412 H413 =>
 C.aFA 0 1 false v3.nod fun v414 =>
 C.aLd 1 false false v414.nod H413 fun v415 H416 =>
 C.calm 77 [v409.nod, v412.nod, v415.nod] H416 fun v417 =>
 C.aFA 2 1 false v3.nod fun v418 =>
 C.aLd 1 false false v418.nod H416 fun v419 H420 =>
 C.aBd [(I 0), (I 0), (I 0), (I 0), (I 0), (I 0), (I 0), (I 0), (I 0), (I 0)] [(0, 4, v407.nod), (4, 1, v417.nod.nod), (6, 1, a2.nod.nod.nod), (9, 1, v419.nod.nod)] fun v421 =>
 C.aBx false 10 (V.agg [(I 0), (I 0), (I 0), (I 0), (I 0), (I 0), (I 0), (I 0), (I 0), (I 0)]) H420 fun v422 H423 =>
 C.aSt 10 v422.nod v421 H423 fun v424 H425 =>
 R7 [a3, v1, v3, v422] H425)
theorem wf84 : (Nat.ble 4 Try.f84.ntmps && wfC an84 Try.f84.ntmps (Try.f84.body.getD .skip)) = true := by kernel_rfl
theorem tie84 (C : Cb) (a0 a1 a2 a3 : V) (H : Hp) (R : List V → Hp → Prop) : wpG Try.prog C an84 (Try.f84.body.getD .skip) (argF [a0, a1, a2, a3]) H (retG Try.prog C Try.f84 R) (fun _ _ _ => False) (retG Try.prog C Try.f84 R) = vc84 C a0 a1 a2 a3 H R := by kernel_rfl
theorem mk84 (a0 a1 a2 a3 : V) {H : Hp} {v : V} {H1 : Hp} (hd : v.Nd) (hn : H.length ≤ H1.length) (hb : H1 = H ∨ ∀ (b : Nat) (blk : Blk), H1[b]? = some blk → H[b]? = some blk ∨ BelB H1.length blk) (h : vc84 (real Try.prog) a0 a1 a2 a3 H (retF v H1)) : Ret Try.prog 84 [a0, a1, a2, a3] H v H1 :=
  ret_mk (an := an84) hm Try.call84 Try.func84 rfl wf84 hd hn hb (Eq.mpr (tie84 (real Try.prog) a0 a1 a2 a3 H (retF v H1)) h)
def an98 : An := { imm := [4, 5, 6], jn := [], lp := [], loud := [27], ord := [] }
def vc98 (C : Cb) (a0 a1 a2 a3 : V) (H : Hp) (R : List V → Hp → Prop) : Prop :=
 C.aBx true 7 a0.nod H fun v1 H2 =>
 C.aBx true 10 a1.nod H2 fun v3 H4 =>
 C.aBx true 4 a2.nod H4 fun v5 H6 =>
 C.aLd 7 true false v1.nod H6 fun v7 H8 =>
 C.aLd 10 true false v3.nod H8 fun v9 H10 =>
 C.aFA 1 1 false v5.nod fun v11 =>
 C.aLd 1 false false v11.nod H10 fun v12 H13 =>
 C.aFA 0 4 true v3.nod fun v14 =>
 C.aFA 2 1 false v14.nod fun v15 =>
 C.aLd 1 false false v15.nod H13 fun v16 H17 =>
 C.aFA 0 4 true v3.nod fun v18 =>
 C.aFA 3 1 false v18.nod fun v19 =>
 C.aLd 1 false false v19.nod H17 fun v20 H21 =>
 C.aFA 0 7 true v1.nod fun v22 =>
 C.aLd 7 true false v22.nod H21 fun v23 H24 =>
 C.aFA 0 4 true v3.nod fun v25 =>
 C.aFA 0 1 false v25.nod fun v26 =>
 C.aLd 1 false false v26.nod H24 fun v27 H28 =>
 C.calm 42 [v23.nod, v27.nod] H28 fun v29 =>
 C.aBd [(I 0), (I 0), (I 0)] [(0, 1, v16.nod), (1, 1, v20.nod.nod), (2, 1, v29.nod.nod)] fun v30 =>
 C.call 103 [v7.nod, v9.nod, v12.nod, (own0 v30 v16).nod, a3.nod.nod] H28 fun v31 H32 =>
 R [v31] H32
theorem wf98 : (Nat.ble 4 Try.f98.ntmps && wfC an98 Try.f98.ntmps (Try.f98.body.getD .skip)) = true := by kernel_rfl
theorem tie98 (C : Cb) (a0 a1 a2 a3 : V) (H : Hp) (R : List V → Hp → Prop) : wpG Try.prog C an98 (Try.f98.body.getD .skip) (argF [a0, a1, a2, a3]) H (retG Try.prog C Try.f98 R) (fun _ _ _ => False) (retG Try.prog C Try.f98 R) = vc98 C a0 a1 a2 a3 H R := by kernel_rfl
theorem mk98 (a0 a1 a2 a3 : V) {H : Hp} {v : V} {H1 : Hp} (hd : v.Nd) (hn : H.length ≤ H1.length) (hb : H1 = H ∨ ∀ (b : Nat) (blk : Blk), H1[b]? = some blk → H[b]? = some blk ∨ BelB H1.length blk) (h : vc98 (real Try.prog) a0 a1 a2 a3 H (retF v H1)) : Ret Try.prog 98 [a0, a1, a2, a3] H v H1 :=
  ret_mk (an := an98) hm Try.call98 Try.func98 rfl wf98 hd hn hb (Eq.mpr (tie98 (real Try.prog) a0 a1 a2 a3 H (retF v H1)) h)
def an99 : An := { imm := [4, 5, 6], jn := [], lp := [], loud := [31], ord := [] }
def vc99 (C : Cb) (a0 a1 a2 a3 : V) (H : Hp) (R : List V → Hp → Prop) : Prop :=
 C.aBx true 7 a0.nod H fun v1 H2 =>
 C.aBx true 10 a1.nod H2 fun v3 H4 =>
 C.aBx true 4 a2.nod H4 fun v5 H6 =>
 C.aLd 7 true false v1.nod H6 fun v7 H8 =>
 C.aLd 10 true false v3.nod H8 fun v9 H10 =>
 C.aFA 1 1 false v5.nod fun v11 =>
 C.aLd 1 false false v11.nod H10 fun v12 H13 =>
 C.aFA 0 7 true v1.nod fun v14 =>
 C.aFA 4 1 false v14.nod fun v15 =>
 C.aLd 1 false false v15.nod H13 fun v16 H17 =>
 C.aFA 1 1 false v5.nod fun v18 =>
 C.aLd 1 false false v18.nod H17 fun v19 H20 =>
 C.aIx 2 v16.nod v19.nod fun v21 =>
 C.aFA 0 1 false v21.nod fun v22 =>
 C.aLd 1 false false v22.nod H20 fun v23 H24 =>
 C.aFA 0 4 true v3.nod fun v25 =>
 C.aFA 3 1 false v25.nod fun v26 =>
 C.aLd 1 false false v26.nod H24 fun v27 H28 =>
 C.aFA 0 7 true v1.nod fun v29 =>
 C.aLd 7 true false v29.nod H28 fun v30 H31 =>
 C.aFA 7 1 false v3.nod fun v32 =>
 C.aLd 1 false false v32.nod H31 fun v33 H34 =>
 C.calm 42 [v30.nod, v33.nod] H34 fun v35 =>
 C.aBd [(I 0), (I 0), (I 0)] [(0, 1, v23.nod), (1, 1, v27.nod.nod), (2, 1, v35.nod.nod)] fun v36 =>
 C.call 103 [v7.nod, v9.nod, v12.nod, (own0 v36 v23).nod, a3.nod.nod] H34 fun v37 H38 =>
 R [v37] H38
theorem wf99 : (Nat.ble 4 Try.f99.ntmps && wfC an99 Try.f99.ntmps (Try.f99.body.getD .skip)) = true := by kernel_rfl
theorem tie99 (C : Cb) (a0 a1 a2 a3 : V) (H : Hp) (R : List V → Hp → Prop) : wpG Try.prog C an99 (Try.f99.body.getD .skip) (argF [a0, a1, a2, a3]) H (retG Try.prog C Try.f99 R) (fun _ _ _ => False) (retG Try.prog C Try.f99 R) = vc99 C a0 a1 a2 a3 H R := by kernel_rfl
theorem mk99 (a0 a1 a2 a3 : V) {H : Hp} {v : V} {H1 : Hp} (hd : v.Nd) (hn : H.length ≤ H1.length) (hb : H1 = H ∨ ∀ (b : Nat) (blk : Blk), H1[b]? = some blk → H[b]? = some blk ∨ BelB H1.length blk) (h : vc99 (real Try.prog) a0 a1 a2 a3 H (retF v H1)) : Ret Try.prog 99 [a0, a1, a2, a3] H v H1 :=
  ret_mk (an := an99) hm Try.call99 Try.func99 rfl wf99 hd hn hb (Eq.mpr (tie99 (real Try.prog) a0 a1 a2 a3 H (retF v H1)) h)
def an100 : An := { imm := [4, 5, 6], jn := [], lp := [], loud := [], ord := [] }
def vc100 (C : Cb) (a0 a1 a2 a3 : V) (H : Hp) (R : List V → Hp → Prop) : Prop :=
 C.aBx true 7 a0.nod H fun v1 H2 =>
 C.aBx true 10 a1.nod H2 fun v3 H4 =>
 C.aBx true 4 a2.nod H4 fun v5 H6 =>
 C.aLd 7 true false v1.nod H6 fun v7 H8 =>
 C.aFA 7 1 false v3.nod fun v9 =>
 C.aLd 1 false false v9.nod H8 fun v10 H11 =>
 C.aFA 2 1 false v5.nod fun v12 =>
 C.aLd 1 false false v12.nod H11 fun v13 H14 =>
 C.aFA 9 1 false v3.nod fun v15 =>
 C.aLd 1 false false v15.nod H14 fun v16 H17 =>
 C.aFA 0 4 true v3.nod fun v18 =>
 C.aFA 3 1 false v18.nod fun v19 =>
 C.aLd 1 false false v19.nod H17 fun v20 H21 =>
 C.aBd [(I 0), (I 0), (I 0), (I 0)] [(0, 1, v10.nod), (1, 1, v13.nod.nod), (2, 1, v16.nod.nod), (3, 1, v20.nod.nod)] fun v22 =>
 C.aFA 6 1 false v3.nod fun v23 =>
 C.aLd 1 false false v23.nod H21 fun v24 H25 =>
 C.aBin (Try.prog.underlying 3) .add v24.nod (I 1) fun v26 =>
 C.callE 84 [v7.nod, (own0 v22 v10).nod, v26.nod, a3.nod.nod] H25 fun v27 H28 =>
 R [v27] H28
theorem wf100 : (Nat.ble 4 Try.f100.ntmps && wfC an100 Try.f100.ntmps (Try.f100.body.getD .skip)) = true := by kernel_rfl
theorem tie100 (C : Cb) (a0 a1 a2 a3 : V) (H : Hp) (R : List V → Hp → Prop) : wpG Try.prog C an100 (Try.f100.body.getD .skip) (argF [a0, a1, a2, a3]) H (retG Try.prog C Try.f100 R) (fun _ _ _ => False) (retG Try.prog C Try.f100 R) = vc100 C a0 a1 a2 a3 H R := by kernel_rfl
theorem mk100 (a0 a1 a2 a3 : V) {H : Hp} {v : V} {H1 : Hp} (hd : v.Nd) (hn : H.length ≤ H1.length) (hb : H1 = H ∨ ∀ (b : Nat) (blk : Blk), H1[b]? = some blk → H[b]? = some blk ∨ BelB H1.length blk) (h : vc100 (real Try.prog) a0 a1 a2 a3 H (retF v H1)) : Ret Try.prog 100 [a0, a1, a2, a3] H v H1 :=
  ret_mk (an := an100) hm Try.call100 Try.func100 rfl wf100 hd hn hb (Eq.mpr (tie100 (real Try.prog) a0 a1 a2 a3 H (retF v H1)) h)
def an101 : An := { imm := [4, 5, 6], jn := [], lp := [], loud := [], ord := [] }
def vc101 (C : Cb) (a0 a1 a2 a3 : V) (H : Hp) (R : List V → Hp → Prop) : Prop :=
 C.aBx true 7 a0.nod H fun v1 H2 =>
 C.aBx true 10 a1.nod H2 fun v3 H4 =>
 C.aBx true 4 a2.nod H4 fun v5 H6 =>
 C.aFA 8 1 false v3.nod fun v7 =>
 C.aLd 1 false false v7.nod H6 fun v8 H9 =>
 C.aBin (Try.prog.underlying 3) .eql v8.nod (I 0) fun v10 =>
 aCond v10.nod (
 R [(B true)] H9) (
 C.aLd 7 true false v1.nod H9 fun v11 H12 =>
 C.aFA 8 1 false v3.nod fun v13 =>
 C.aLd 1 false false v13.nod H12 fun v14 H15 =>
 C.aFA 2 1 false v5.nod fun v16 =>
 C.aLd 1 false false v16.nod H15 fun v17 H18 =>
 C.aFA 0 4 true v3.nod fun v19 =>
 C.aFA 2 1 false v19.nod fun v20 =>
 C.aLd 1 false false v20.nod H18 fun v21 H22 =>
 C.aFA 0 4 true v3.nod fun v23 =>
 C.aFA 3 1 false v23.nod fun v24 =>
 C.aLd 1 false false v24.nod H22 fun v25 H26 =>
 C.aBd [(I 0), (I 0), (I 0), (I 0)] [(0, 1, v14.nod), (1, 1, v17.nod.nod), (2, 1, v21.nod.nod), (3, 1, v25.nod.nod)] fun v27 =>
 C.aFA 6 1 false v3.nod fun v28 =>
 C.aLd 1 false false v28.nod H26 fun v29 H30 =>
 C.aBin (Try.prog.underlying 3) .add v29.nod (I 1) fun v31 =>
 C.callE 84 [v11.nod, (own0 v27 v14).nod, v31.nod, a3.nod.nod] H30 fun v32 H33 =>
 R [v32] H33)
theorem wf101 : (Nat.ble 4 Try.f101.ntmps && wfC an101 Try.f101.ntmps (Try.f101.body.getD .skip)) = true := by kernel_rfl
theorem tie101 (C : Cb) (a0 a1 a2 a3 : V) (H : Hp) (R : List V → Hp → Prop) : wpG Try.prog C an101 (Try.f101.body.getD .skip) (argF [a0, a1, a2, a3]) H (retG Try.prog C Try.f101 R) (fun _ _ _ => False) (retG Try.prog C Try.f101 R) = vc101 C a0 a1 a2 a3 H R := by kernel_rfl
theorem mk101 (a0 a1 a2 a3 : V) {H : Hp} {v : V} {H1 : Hp} (hd : v.Nd) (hn : H.length ≤ H1.length) (hb : H1 = H ∨ ∀ (b : Nat) (blk : Blk), H1[b]? = some blk → H[b]? = some blk ∨ BelB H1.length blk) (h : vc101 (real Try.prog) a0 a1 a2 a3 H (retF v H1)) : Ret Try.prog 101 [a0, a1, a2, a3] H v H1 :=
  ret_mk (an := an101) hm Try.call101 Try.func101 rfl wf101 hd hn hb (Eq.mpr (tie101 (real Try.prog) a0 a1 a2 a3 H (retF v H1)) h)
def an102 : An := { imm := [4, 5, 6], jn := [(2, [3, 4, 5, 6, 23])], lp := [], loud := [41], ord := [] }
def vc102 (C : Cb) (a0 a1 a2 a3 : V) (H : Hp) (R : List V → Hp → Prop) : Prop :=
 C.aBx true 7 a0.nod H fun v1 H2 =>
 C.aBx true 10 a1.nod H2 fun v3 H4 =>
 C.aBx true 4 a2.nod H4 fun v5 H6 =>
 Jn (fun l7 H8 =>
 aCond (l7.getD 4 .junk).nod (
 R [(B true)] H8) (
 C.aLd 7 true false (l7.getD 1 .junk).nod H8 fun v10 H11 =>
 C.aLd 10 true false (l7.getD 2 .junk).nod H11 fun v12 H13 =>
 C.aFA 1 1 false (l7.getD 3 .junk).nod fun v14 =>
 C.aLd 1 false false v14.nod H13 fun v15 H16 =>
 C.aFA 0 4 true (l7.getD 2 .junk).nod fun v17 =>
 C.aFA 2 1 false v17.nod fun v18 =>
 C.aLd 1 false false v18.nod H16 fun v19 H20 =>
 C.aFA 0 4 true (l7.getD 2 .junk).nod fun v21 =>
 C.aFA 3 1 false v21.nod fun v22 =>
 C.aLd 1 false false v22.nod H20 fun v23 H24 =>
 C.aFA 0 7 true (l7.getD 1 .junk).nod fun v25 =>
 C.aLd 7 true false v25.nod H24 fun v26 H27 =>
 C.aFA 8 1 false (l7.getD 2 .junk).nod fun v28 =>
 C.aLd 1 false false v28.nod H27 fun v29 H30 =>
 C.calm 42 [v26.nod, v29.nod] H30 fun v31 =>
 C.aBd [(I 0), (I 0), (I 0)] [(0, 1, v19.nod), (1, 1, v23.nod.nod), (2, 1, v31.nod.nod)] fun v32 =>
 C.call 103 [v10.nod, v12.nod, v15.nod, (own0 v32 v19).nod, (l7.getD 0 .junk).nod.nod] H30 fun v33 H34 =>
 R [v33] H34))
 (fun R9 =>
 C.aFA 8 1 false v3.nod fun v35 =>
 C.aLd 1 false false v35.nod H6 fun v36 H37 =>
 C.aBin (Try.prog.underlying 3) .eql v36.nod (I 0) fun v38 =>
 Jv (fun v39 H40 =>
 R9 [a3, v1, v3, v5, v39] H40)
 (fun R41 =>
 aG v38.nod false (
 C.aFA 3 1 false v5.nod fun v42 =>
 C.aLd 1 false false v42.nod H37 fun v43 H44 =>
 C.aBin (Try.prog.underlying 3) .neq v43.nod (I 0) fun v45 =>
 aG v45.nod true (
 C.aFA 8 1 false v3.nod fun v46 =>
 C.aLd 1 false false v46.nod H44 fun v47 H48 =>
 C.aFA 3 1 false v5.nod fun v49 =>
 C.aLd 1 false false v49.nod H48 fun v50 H51 =>
 C.aBin (Try.prog.underlying 3) .geq v47.nod v50.nod fun v52 =>
 R41 v52.nod.nod H51) (
 R41 (B false) H44)) (
 UD = UD ∧
 UD = UD ∧
 UD = UD ∧
 UD = UD ∧
 UD = UD ∧
 R41 (B true) H37)))
theorem wf102 : (Nat.ble 4 Try.f102.ntmps && wfC an102 Try.f102.ntmps (Try.f102.body.getD .skip)) = true := by kernel_rfl
theorem tie102 (C : Cb) (a0 a1 a2 a3 : V) (H : Hp) (R : List V → Hp → Prop) : wpG Try.prog C an102 (Try.f102.body.getD .skip) (argF [a0, a1, a2, a3]) H (retG Try.prog C Try.f102 R) (fun _ _ _ => False) (retG Try.prog C Try.f102 R) = vc102 C a0 a1 a2 a3 H R := by kernel_rfl
theorem mk102 (a0 a1 a2 a3 : V) {H : Hp} {v : V} {H1 : Hp} (hd : v.Nd) (hn : H.length ≤ H1.length) (hb : H1 = H ∨ ∀ (b : Nat) (blk : Blk), H1[b]? = some blk → H[b]? = some blk ∨ BelB H1.length blk) (h : vc102 (real Try.prog) a0 a1 a2 a3 H (retF v H1)) : Ret Try.prog 102 [a0, a1, a2, a3] H v H1 :=
  ret_mk (an := an102) hm Try.call102 Try.func102 rfl wf102 hd hn hb (Eq.mpr (tie102 (real Try.prog) a0 a1 a2 a3 H (retF v H1)) h)
def an103 : An := { imm := [5, 6, 8, 13], jn := [(2, [2, 4, 5, 8, 11]), (6, [4, 8, 11, 13, 33, 34, 35, 49]), (8, [4, 11])], lp := [(3, [4, 8, 11, 33, 34, 35])], loud := [], ord := [] }
def vc103 (C : Cb) (a0 a1 a2 a3 a4 : V) (H : Hp) (R : List V → Hp → Prop) : Prop :=
 C.aBx true 7 a0.nod H fun v1 H2 =>
 C.aBx true 10 a1.nod H2 fun v3 H4 =>
 C.aBx true 3 a3.nod H4 fun v5 H6 =>
 Jn (fun l7 H8 =>
 Jn (fun l10 H11 =>
 C.aLd 6 true false (l10.getD 1 .junk).nod H11 fun v13 H14 =>
 aCallEG C (l10.getD 0 .junk).nod.nod [v13.nod] H14 fun v15 H16 =>
 R [v15] H16)
 (fun R12 =>
 C.aFA 0 7 true (l7.getD 2 .junk).nod fun v17 =>
 C.aFA 4 1 false v17.nod fun v18 =>
 C.aLd 1 false false v18.nod H8 fun v19 H20 =>
 C.aIx 2 v19.nod (l7.getD 0 .junk).nod.nod fun v21 =>
 C.aFA 1 1 false v21.nod fun v22 =>
 C.aLd 1 false false v22.nod H20 fun v23 H24 =>
 C.aLen v23.nod fun v25 =>
 LoopA (fun l26 H27 K28 =>
 C.aBin (Try.prog.underlying 3) .lss (l26.getD 5 .junk).nod (l26.getD 4 .junk).nod fun v29 =>
 aCond v29.nod (
 C.aIx 4 (l26.getD 3 .junk).nod (l26.getD 5 .junk).nod fun v30 =>
 C.aLd 4 true false v30.nod H27 fun v31 H32 =>
 C.aBx true 4 v31.nod H32 fun v33 H34 =>
 Jn (fun l35 H36 =>
 aCond (l35.getD 7 .junk).nod (
 C.aFA 3 1 false (l35.getD 3 .junk).nod fun v38 =>
 C.aLd 1 false false v38.nod H36 fun v39 H40 =>
 C.aFA 0 1 false (l35.getD 2 .junk).nod fun v41 =>
 C.aSt 1 v41.nod v39 H40 fun v42 H43 =>
 R12 [(l35.getD 0 .junk), (l35.getD 2 .junk)] H43) (
 C.aBin (Try.prog.underlying 3) .add (l35.getD 6 .junk).nod (I 1) fun v44 =>
 K28 [(l35.getD 0 .junk), (l35.getD 1 .junk), (l35.getD 2 .junk), (l35.getD 4 .junk), (l35.getD 5 .junk), v44.nod] H36))
 (fun R37 =>
 C.aLd 3 true false (l26.getD 1 .junk).nod H34 fun v45 H46 =>
 C.aLd 4 true false v33.nod H46 fun v47 H48 =>
 C.calm 104 [v45.nod, v47.nod] H48 fun v49 =>
 C.aFA 0 1 false v33.nod fun v50 =>
 C.aLd 1 false false v50.nod H48 fun v51 H52 =>
 C.aFA 1 1 false v33.nod fun v53 =>
 C.aLd 1 false false v53.nod H52 fun v54 H55 =>
 C.aFA 2 1 false v33.nod fun v56 =>
 C.aLd 1 false false v56.nod H55 fun v57 H58 =>
 C.aBd [(I 0), (I 0), (I 0)] [(0, 1, v51.nod), (1, 1, v54.nod.nod), (2, 1, v57.nod.nod)] fun v59 =>
 C.aEqS 163 .eql v49.nod (own0 v59 v51).nod fun v60 =>
 R37 [(l26.getD 0 .junk), (l26.getD 1 .junk), (l26.getD 2 .junk), v33, (l26.getD 3 .junk), (l26.getD 4 .junk), (l26.getD 5 .junk), v60] H58)) (
 R12 [(l26.getD 0 .junk), (l26.getD 2 .junk)] H27))
 [(l7.getD 1 .junk), (l7.getD 3 .junk), (l7.getD 4 .junk), v23, v25, (I 0)] H24))
 (fun R9 =>
 C.aFA 0 4 true v3.nod fun v61 =>
 C.aFA 0 1 false v61.nod fun v62 =>
 C.aLd 1 false false v62.nod H6 fun v63 H64 =>
 C.aFA 0 4 true v3.nod fun v65 =>
 C.aFA 1 1 false v65.nod fun v66 =>
 C.aLd 1 false false v66.nod H64 fun v67 H68 =>
 C.aFA 4 1 false v3.nod fun v69 =>
 C.aLd 1 false false v69.nod H68 fun v70 H71 =>
 C.aFA 5 1 false v3.nod fun v72 =>
 C.aLd 1 false false v72.nod H71 fun v73 H74 =>
 C.aFA 6 1 false v3.nod fun v75 =>
 C.aLd 1 false false v75.nod H74 fun v76 H77 =>
 C.aBd [(V.imm (.string (ByteArray.mk #[]))), (I 0), (I 0), (I 0), (I 0), (I 0)] [(1, 1, v63.nod.nod), (2, 1, v67.nod.nod), (3, 1, v70.nod.nod), (4, 1, v73.nod.nod), (5, 1, v76.nod.nod)] fun v78 =>
 C.aBx false 6 (V.agg [(V.imm (.string (ByteArray.mk #[]))), (I 0), (I 0), (I 0), (I 0), (I 0)]) H77 fun v79 H80 =>
 C.aSt 6 v79.nod v78 H80 fun v81 H82 =>
 R9 [a2, a4, v1, v5, v79] H82)
theorem wf103 : (Nat.ble 5 Try.f103.ntmps && wfC an103 Try.f103.ntmps (Try.f103.body.getD .skip)) = true := by kernel_rfl
theorem tie103 (C : Cb) (a0 a1 a2 a3 a4 : V) (H : Hp) (R : List V → Hp → Prop) : wpG Try.prog C an103 (Try.f103.body.getD .skip) (argF [a0, a1, a2, a3, a4]) H (retG Try.prog C Try.f103 R) (fun _ _ _ => False) (retG Try.prog C Try.f103 R) = vc103 C a0 a1 a2 a3 a4 H R := by kernel_rfl
theorem mk103 (a0 a1 a2 a3 a4 : V) {H : Hp} {v : V} {H1 : Hp} (hd : v.Nd) (hn : H.length ≤ H1.length) (hb : H1 = H ∨ ∀ (b : Nat) (blk : Blk), H1[b]? = some blk → H[b]? = some blk ∨ BelB H1.length blk) (h : vc103 (real Try.prog) a0 a1 a2 a3 a4 H (retF v H1)) : Ret Try.prog 103 [a0, a1, a2, a3, a4] H v H1 :=
  ret_mk (an := an103) hm Try.call103 Try.func103 rfl wf103 hd hn hb (Eq.mpr (tie103 (real Try.prog) a0 a1 a2 a3 a4 H (retF v H1)) h)
def an104 : An := { imm := [3], jn := [(3, [2, 3, 4]), (5, [2, 3, 4])], lp := [], loud := [], ord := [] }
def vc104 (C : Cb) (a0 a1 : V) (H : Hp) (R : List V → Hp → Prop) : Prop :=
 C.aBx false 3 a0.nod H fun v1 H2 =>
 C.aBx true 4 a1.nod H2 fun v3 H4 =>
 C.aBx false 3 (V.agg [(I 0), (I 0), (I 0)]) H4 fun v5 H6 =>
 Jn (fun l7 H8 =>
 Jn (fun l10 H11 =>
 C.aFA 2 1 false (l10.getD 1 .junk).nod fun v13 =>
 C.aLd 1 false false v13.nod H11 fun v14 H15 =>
 C.aBin (Try.prog.underlying 3) .eql v14.nod (I (-1)) fun v16 =>
 aCond v16.nod (
 C.aIxA 3 1 false (l10.getD 0 .junk).nod (I 2) fun v17 =>
 C.aSt 1 v17.nod (I (-1)) H15 fun v18 H19 =>
 C.aLd 3 true false (l10.getD 0 .junk).nod H19 fun v20 H21 =>
 C.aSt 3 (l10.getD 2 .junk).nod v20 H21 fun v22 H23 =>
 C.aRes 3 true (l10.getD 2 .junk) H23 fun v24 =>
 R [v24] H23) (
 C.aLd 3 true false (l10.getD 0 .junk).nod H15 fun v25 H26 =>
 C.aSt 3 (l10.getD 2 .junk).nod v25 H26 fun v27 H28 =>
 C.aRes 3 true (l10.getD 2 .junk) H28 fun v29 =>
 R [v29] H28))
 (fun R12 =>
 C.aFA 1 1 false (l7.getD 1 .junk).nod fun v30 =>
 C.aLd 1 false false v30.nod H8 fun v31 H32 =>
 C.aBin (Try.prog.underlying 3) .eql v31.nod (I (-1)) fun v33 =>
 aCond v33.nod (
 C.aIxA 3 1 false (l7.getD 0 .junk).nod (I 1) fun v34 =>
 C.aSt 1 v34.nod (I (-1)) H32 fun v35 H36 =>
 R12 [(l7.getD 0 .junk), (l7.getD 1 .junk), (l7.getD 2 .junk)] H36) (
 R12 [(l7.getD 0 .junk), (l7.getD 1 .junk), (l7.getD 2 .junk)] H32)))
 (fun R9 =>
 C.aFA 0 1 false v3.nod fun v37 =>
 C.aLd 1 false false v37.nod H6 fun v38 H39 =>
 C.aBin (Try.prog.underlying 3) .eql v38.nod (I (-1)) fun v40 =>
 aCond v40.nod (
 C.aIxA 3 1 false v1.nod (I 0) fun v41 =>
 C.aSt 1 v41.nod (I (-1)) H39 fun v42 H43 =>
 R9 [v1, v3, v5] H43) (
 R9 [v1, v3, v5] H39))
theorem wf104 : (Nat.ble 2 Try.f104.ntmps && wfC an104 Try.f104.ntmps (Try.f104.body.getD .skip)) = true := by kernel_rfl
theorem tie104 (C : Cb) (a0 a1 : V) (H : Hp) (R : List V → Hp → Prop) : wpG Try.prog C an104 (Try.f104.body.getD .skip) (argF [a0, a1]) H (retG Try.prog C Try.f104 R) (fun _ _ _ => False) (retG Try.prog C Try.f104 R) = vc104 C a0 a1 H R := by kernel_rfl
theorem mk104 (a0 a1 : V) {H : Hp} {v : V} {H1 : Hp} (hd : v.Nd) (hn : H.length ≤ H1.length) (hb : H1 = H ∨ ∀ (b : Nat) (blk : Blk), H1[b]? = some blk → H[b]? = some blk ∨ BelB H1.length blk) (h : vc104 (real Try.prog) a0 a1 H (retF v H1)) : Ret Try.prog 104 [a0, a1] H v H1 :=
  ret_mk (an := an104) hm Try.call104 Try.func104 rfl wf104 hd hn hb (Eq.mpr (tie104 (real Try.prog) a0 a1 H (retF v H1)) h)
end Go.Proofs.Ytgodfjbmblghnaa


set_option linter.unusedVariables false
set_option linter.unusedSimpArgs false
set_option linter.unnecessarySimpa false
set_option maxRecDepth 20000
set_option maxHeartbeats 2000000
namespace Go.Proofs.Ytgodfjbmblghnaa
open Go Go.Ab Go.Proofs
attribute [local congr] g_bin g_nilS g_nilP g_un g_ext g_bx g_fa g_ld g_st g_ix g_ixA g_slc g_mk g_bs g_bd g_nc g_cv g_len g_lenT g_app g_appB g_cpy g_mm g_call g_callG g_calm g_calmG g_range g_res g_pick g_cond g_loop g_Jv g_eqS g_eqP g_fd g_ixT g_ta g_lkp g_upd g_mkM g_appS g_inv g_callE g_callEG g_invE g_zr g_wr
def fit1 (x a : Int) : Int := if x = -1 then -1 else a
theorem end1G {H L : Hp} {a a' : V} (h : Fz H.length (H ++ L) a a') : retF a' H [a] (H ++ L) := ⟨h, by simp⟩
theorem fz_ag3 {n : Nat} {H : Hp} {a b c : Value} : Fz n H (.agg [.imm a, .imm b, .imm c]) (.agg [.imm a, .imm b, .imm c]) := .keep _ (.agg _ fun c hc => by
  simp only [List.mem_cons, List.not_mem_nil, or_false] at hc
  rcases hc with rfl | rfl | rfl <;> exact .imm _)
theorem c104 (a b c : Int) (f : Fo) (H : Hp) : Ret Try.prog 104 [.agg [I a, I b, I c], foV f] H (.agg [I (fit1 f.g a), I (fit1 f.k b), I (fit1 f.c c)]) H := by
  have t0 : Int.toNat 0 = 0 := rfl
  have t1 : Int.toNat 1 = 1 := rfl
  have t2 : Int.toNat 2 = 2 := rfl
  refine mk104 _ _ rfl (Nat.le_refl _) (.inl rfl) ?_
  simp only [vc104, real]
  repeat (first | (with_reducible first | refine Ju.go ?_ | (refine Hd.go ?_; intro K Q hK hQ; simp only [nod_agg, List.map_cons, nodL_imm, List.map_nil, e_bx, okE_agg, lv_cons, List.length_nil, Nat.zero_add, Nat.reduceAdd, all_c, ck_I, all_n, Bool.and_self, and_true, cl_agg, true_and, e_bxI, ck_str, hp_len, hp_len_cons, hp_assoc, hp_cons, hp_nil, nod_cptr, e_fac, Nat.reduceLeDiff, List.getD_cons_zero, e_ldc, nod_imm, Try.underlying3, Int.reduceNeg, e_eql, e_cond, decide_eq_true_eq]; subst hK hQ) | refine Jr.go ?_) | refine sd ?_)
  by_cases h1 : f.g = -1
  · rw [show fit1 f.g a = -1 from if_pos h1]
    repeat (first | (with_reducible first | refine Ju.go ?_ | (refine Hd.go ?_; intro K Q hK hQ; simp only [h1, Int.reduceNeg, if_true, nod_ptr, e_ixAP, Int.cast_ofNat_Int, t0, Nat.mul_one, Nat.add_zero, e_sc0, Nat.zero_add, lv_cons, List.length_nil, Nat.reduceAdd, Nat.reduceLeDiff, stV_imm, okE_I, cl_imm, spl_0, spl_n, true_and, List.getD_cons_succ, List.getD_cons_zero, nod_cptr, e_fac, e_ldc, nod_imm, Try.underlying3, e_eql, e_cond, decide_eq_true_eq]; subst hK hQ) | refine Jr.go ?_) | refine sd ?_)
    by_cases h2 : f.k = -1
    · rw [show fit1 f.k b = -1 from if_pos h2]
      repeat (first | (with_reducible first | refine Ju.go ?_ | (refine Hd.go ?_; intro K Q hK hQ; simp only [h2, Int.reduceNeg, if_true, List.getD_cons_zero, nod_ptr, e_ixAP, Int.cast_ofNat_Int, t1, Nat.mul_one, Nat.zero_add, e_sc0, Nat.reduceAdd, lv_cons, List.length_nil, Nat.reduceLeDiff, stV_imm, okE_I, cl_imm, spl_s, spl_0, spl_n, true_and, List.getD_cons_succ, nod_cptr, e_fac, e_ldc, nod_imm, Try.underlying3, e_eql, e_cond, decide_eq_true_eq]; subst hK hQ) | refine Jr.go ?_) | refine sd ?_)
      by_cases h3 : f.c = -1
      · rw [show fit1 f.c c = -1 from if_pos h3]
        repeat (first | (with_reducible first | refine Ju.go ?_ | (refine Hd.go ?_; intro K Q hK hQ; simp only [h3, Int.reduceNeg, if_true, List.getD_cons_zero, nod_ptr, e_ixAP, Int.cast_ofNat_Int, t2, Nat.mul_one, Nat.zero_add, e_sc0, Nat.reduceAdd, lv_cons, List.length_nil, Nat.reduceLeDiff, stV_imm, okE_I, cl_imm, spl_s, spl_0, spl_n, true_and, e_lA0, dr_0, tk_s, tk_0, nod_agg, List.map_cons, nodL_imm, List.map_nil, List.getD_cons_succ, e_sc1, stV_agg, okE_agg, all_c, ck_I, all_n, Bool.and_self, and_true, cl_agg, e_rA1]; subst hK hQ) | refine Jr.go ?_) | refine sd ?_)
        exact end1G fz_ag3
      · rw [show fit1 f.c c = c from if_neg h3]
        repeat (first | (with_reducible first | refine Ju.go ?_ | (refine Hd.go ?_; intro K Q hK hQ; simp only [Int.reduceNeg, h3, if_false, List.getD_cons_zero, nod_ptr, e_lA0, Nat.zero_add, lv_cons, List.length_nil, Nat.reduceAdd, Nat.reduceLeDiff, dr_0, tk_s, tk_0, nod_agg, List.map_cons, nodL_imm, List.map_nil, true_and, List.getD_cons_succ, e_sc1, stV_agg, okE_agg, all_c, ck_I, all_n, Bool.and_self, and_true, cl_agg, spl_0, spl_n, e_rA1]; subst hK hQ) | refine Jr.go ?_) | refine sd ?_)
        exact end1G fz_ag3
    · rw [show fit1 f.k b = b from if_neg h2]
      repeat (first | (with_reducible first | refine Ju.go ?_ | (refine Hd.go ?_; intro K Q hK hQ; simp only [Int.reduceNeg, h2, if_false, List.getD_cons_zero, List.getD_cons_succ, nod_cptr, e_fac, Nat.reduceAdd, lv_cons, List.length_nil, Nat.zero_add, Nat.reduceLeDiff, true_and, e_ldc, nod_imm, Try.underlying3, e_eql, e_cond, decide_eq_true_eq]; subst hK hQ) | refine Jr.go ?_) | refine sd ?_)
      by_cases h3 : f.c = -1
      · rw [show fit1 f.c c = -1 from if_pos h3]
        repeat (first | (with_reducible first | refine Ju.go ?_ | (refine Hd.go ?_; intro K Q hK hQ; simp only [h3, Int.reduceNeg, if_true, List.getD_cons_zero, nod_ptr, e_ixAP, Int.cast_ofNat_Int, t2, Nat.mul_one, Nat.zero_add, e_sc0, Nat.reduceAdd, lv_cons, List.length_nil, Nat.reduceLeDiff, stV_imm, okE_I, cl_imm, spl_s, spl_0, spl_n, true_and, e_lA0, dr_0, tk_s, tk_0, nod_agg, List.map_cons, nodL_imm, List.map_nil, List.getD_cons_succ, e_sc1, stV_agg, okE_agg, all_c, ck_I, all_n, Bool.and_self, and_true, cl_agg, e_rA1]; subst hK hQ) | refine Jr.go ?_) | refine sd ?_)
        exact end1G fz_ag3
      · rw [show fit1 f.c c = c from if_neg h3]
        repeat (first | (with_reducible first | refine Ju.go ?_ | (refine Hd.go ?_; intro K Q hK hQ; simp only [Int.reduceNeg, h3, if_false, List.getD_cons_zero, nod_ptr, e_lA0, Nat.zero_add, lv_cons, List.length_nil, Nat.reduceAdd, Nat.reduceLeDiff, dr_0, tk_s, tk_0, nod_agg, List.map_cons, nodL_imm, List.map_nil, true_and, List.getD_cons_succ, e_sc1, stV_agg, okE_agg, all_c, ck_I, all_n, Bool.and_self, and_true, cl_agg, spl_0, spl_n, e_rA1]; subst hK hQ) | refine Jr.go ?_) | refine sd ?_)
        exact end1G fz_ag3
  · rw [show fit1 f.g a = a from if_neg h1]
    repeat (first | (with_reducible first | refine Ju.go ?_ | (refine Hd.go ?_; intro K Q hK hQ; simp only [Int.reduceNeg, h1, if_false, List.getD_cons_succ, List.getD_cons_zero, nod_cptr, e_fac, Nat.reduceAdd, lv_cons, List.length_nil, Nat.zero_add, Nat.reduceLeDiff, true_and, e_ldc, nod_imm, Try.underlying3, e_eql, e_cond, decide_eq_true_eq]; subst hK hQ) | refine Jr.go ?_) | refine sd ?_)
    by_cases h2 : f.k = -1
    · rw [show fit1 f.k b = -1 from if_pos h2]
      repeat (first | (with_reducible first | refine Ju.go ?_ | (refine Hd.go ?_; intro K Q hK hQ; simp only [h2, Int.reduceNeg, if_true, List.getD_cons_zero, nod_ptr, e_ixAP, Int.cast_ofNat_Int, t1, Nat.mul_one, Nat.zero_add, e_sc0, Nat.reduceAdd, lv_cons, List.length_nil, Nat.reduceLeDiff, stV_imm, okE_I, cl_imm, spl_s, spl_0, spl_n, true_and, List.getD_cons_succ, nod_cptr, e_fac, e_ldc, nod_imm, Try.underlying3, e_eql, e_cond, decide_eq_true_eq]; subst hK hQ) | refine Jr.go ?_) | refine sd ?_)
      by_cases h3 : f.c = -1
      · rw [show fit1 f.c c = -1 from if_pos h3]
        repeat (first | (with_reducible first | refine Ju.go ?_ | (refine Hd.go ?_; intro K Q hK hQ; simp only [h3, Int.reduceNeg, if_true, List.getD_cons_zero, nod_ptr, e_ixAP, Int.cast_ofNat_Int, t2, Nat.mul_one, Nat.zero_add, e_sc0, Nat.reduceAdd, lv_cons, List.length_nil, Nat.reduceLeDiff, stV_imm, okE_I, cl_imm, spl_s, spl_0, spl_n, true_and, e_lA0, dr_0, tk_s, tk_0, nod_agg, List.map_cons, nodL_imm, List.map_nil, List.getD_cons_succ, e_sc1, stV_agg, okE_agg, all_c, ck_I, all_n, Bool.and_self, and_true, cl_agg, e_rA1]; subst hK hQ) | refine Jr.go ?_) | refine sd ?_)
        exact end1G fz_ag3
      · rw [show fit1 f.c c = c from if_neg h3]
        repeat (first | (with_reducible first | refine Ju.go ?_ | (refine Hd.go ?_; intro K Q hK hQ; simp only [Int.reduceNeg, h3, if_false, List.getD_cons_zero, nod_ptr, e_lA0, Nat.zero_add, lv_cons, List.length_nil, Nat.reduceAdd, Nat.reduceLeDiff, dr_0, tk_s, tk_0, nod_agg, List.map_cons, nodL_imm, List.map_nil, true_and, List.getD_cons_succ, e_sc1, stV_agg, okE_agg, all_c, ck_I, all_n, Bool.and_self, and_true, cl_agg, spl_0, spl_n, e_rA1]; subst hK hQ) | refine Jr.go ?_) | refine sd ?_)
        exact end1G fz_ag3
    · rw [show fit1 f.k b = b from if_neg h2]
      repeat (first | (with_reducible first | refine Ju.go ?_ | (refine Hd.go ?_; intro K Q hK hQ; simp only [Int.reduceNeg, h2, if_false, List.getD_cons_zero, List.getD_cons_succ, nod_cptr, e_fac, Nat.reduceAdd, lv_cons, List.length_nil, Nat.zero_add, Nat.reduceLeDiff, true_and, e_ldc, nod_imm, Try.underlying3, e_eql, e_cond, decide_eq_true_eq]; subst hK hQ) | refine Jr.go ?_) | refine sd ?_)
      by_cases h3 : f.c = -1
      · rw [show fit1 f.c c = -1 from if_pos h3]
        repeat (first | (with_reducible first | refine Ju.go ?_ | (refine Hd.go ?_; intro K Q hK hQ; simp only [h3, Int.reduceNeg, if_true, List.getD_cons_zero, nod_ptr, e_ixAP, Int.cast_ofNat_Int, t2, Nat.mul_one, Nat.zero_add, e_sc0, Nat.reduceAdd, lv_cons, List.length_nil, Nat.reduceLeDiff, stV_imm, okE_I, cl_imm, spl_s, spl_0, spl_n, true_and, e_lA0, dr_0, tk_s, tk_0, nod_agg, List.map_cons, nodL_imm, List.map_nil, List.getD_cons_succ, e_sc1, stV_agg, okE_agg, all_c, ck_I, all_n, Bool.and_self, and_true, cl_agg, e_rA1]; subst hK hQ) | refine Jr.go ?_) | refine sd ?_)
        exact end1G fz_ag3
      · rw [show fit1 f.c c = c from if_neg h3]
        repeat (first | (with_reducible first | refine Ju.go ?_ | (refine Hd.go ?_; intro K Q hK hQ; simp only [Int.reduceNeg, h3, if_false, List.getD_cons_zero, nod_ptr, e_lA0, Nat.zero_add, lv_cons, List.length_nil, Nat.reduceAdd, Nat.reduceLeDiff, dr_0, tk_s, tk_0, nod_agg, List.map_cons, nodL_imm, List.map_nil, true_and, List.getD_cons_succ, e_sc1, stV_agg, okE_agg, all_c, ck_I, all_n, Bool.and_self, and_true, cl_agg, spl_0, spl_n, e_rA1]; subst hK hQ) | refine Jr.go ?_) | refine sd ?_)
        exact end1G fz_ag3
end Go.Proofs.Ytgodfjbmblghnaa


set_option linter.unusedVariables false
set_option linter.unusedSimpArgs false
set_option linter.unnecessarySimpa false
set_option maxRecDepth 20000
set_option maxHeartbeats 2000000
namespace Go.Proofs.Ytgodfjbmblghnaa
open Go Go.Ab Go.Proofs
attribute [local congr] g_bin g_nilS g_nilP g_un g_ext g_bx g_fa g_ld g_st g_ix g_ixA g_slc g_mk g_bs g_bd g_nc g_cv g_len g_lenT g_app g_appB g_cpy g_mm g_call g_callG g_calm g_calmG g_range g_res g_pick g_cond g_loop g_Jv g_eqS g_eqP g_fd g_ixT g_ta g_lkp g_upd g_mkM g_appS g_inv g_callE g_callEG g_invE g_zr g_wr
structure Sd where
  x : ByteArray
  n : Int
  t : Int
  r : Int
  p : Int
  d : Int
deriving Inhabited
structure At where
  n : Int
  t : Int
  g : Int
  k : Int
  r : Int
  p : Int
  d : Int
  q : Int
  e : Int
  c : Int
abbrev sdV (w : Sd) : V := .agg [T w.x, I w.n, I w.t, I w.r, I w.p, I w.d]
abbrev atV (a : At) : V := .agg [I a.n, I a.t, I a.g, I a.k, I a.r, I a.p, I a.d, I a.q, I a.e, I a.c]
def fitF (g k c : Int) (x : Fo) : Bool := decide (fit1 x.g g = x.g) && (decide (fit1 x.k k = x.k) && decide (fit1 x.c c = x.c))
def txF (l : List Fo) (g k c : Int) : ByteArray := match l.find? (fitF g k c) with | some x => x.t | none => ByteArray.mk #[]
def formW (s : Sy) (a : At) (t g k c : Int) : Sd := ⟨txF (s.te.getD t.toNat default).f g k c, a.n, a.t, a.r, a.p, a.d⟩
structure Y1 (b : Nat) (w : Sd) (H : Hp) (ok : Bool) (H1 : Hp) : Prop where
  y : ∀ X, RetY Try.prog b [sdV w] (H ++ X) (B ok) (H1 ++ X)
  len : H1.length = H.length
  hb : H1 = H ∨ ∀ (i : Nat) (blk : Blk), H1[i]? = some blk → H[i]? = some blk ∨ BelB H1.length blk
theorem lv163 : lvT Try.prog 10000 163 = some [.int, .int, .int] := by kernel_rfl
theorem gd163 : Try.prog.eqGuardType Try.prog.depth 163 = false := by kernel_rfl
theorem lfL3 (a b c x y z : Int) : lfL [.int, .int, .int] [I a, I b, I c] [I x, I y, I z] = some (decide (a = x) && (decide (b = y) && decide (c = z))) := by
  simp [lfL, lfE]
theorem eq163 {K : V → Prop} (a b c x y z : Int) : aEqS Try.prog 163 .eql (.agg [I a, I b, I c]) (.agg [I x, I y, I z]) K = K (B (decide (a = x) && (decide (b = y) && decide (c = z)))) := by
  refine propext ⟨fun ⟨ls, r, h1, h2, h3, h4⟩ => ?_, fun h => ⟨_, _, lv163, lfL3 a b c x y z, gd163, h⟩⟩
  obtain rfl : ls = _ := Option.some.inj (h1.symm.trans lv163)
  obtain rfl : r = _ := Option.some.inj (h2.symm.trans (lfL3 a b c x y z))
  exact h4
theorem c103 (s : Sy) (a : At) (t g k c : Int) (b : Nat) (H H1 : Hp) (ok : Bool) (h0 : 0 ≤ t) (h1 : t < s.te.length) (hl : (s.te.getD t.toNat default).f.length ≤ 9223372036854775807) (hY : Y1 b (formW s a t g k c) H ok H1) :
    Ret Try.prog 103 [syV s, atV a, I t, .agg [I g, I k, I c], .yld b] H (B ok) H1 := by
  refine mk103 _ _ _ _ _ rfl (Nat.le_of_eq hY.len.symm) hY.hb ?_
  simp only [vc103, real]
  repeat (first | (with_reducible first | refine Ju.go ?_ | (refine Hd.go ?_; intro K Q hK hQ; simp only [nod_agg, List.map_cons, nodL_imm, nodL_arr, nd_no, List.map_nil, e_bxI, okE_agg, lv_cons, List.length_nil, Nat.zero_add, Nat.reduceAdd, all_c, ck_I, ck_arr, all_n, Bool.and_self, and_true, true_and, nod_cptr, e_facA, Nat.reduceLeDiff, dr_0, tk_s, tk_0, e_fac, List.getD_cons_zero, e_ldc, List.getD_cons_succ, nod_imm, e_bd1, okE_I, cl_imm, spl_s, spl_0, spl_n, e_bd0, e_bx, ck_str, cl_agg, nod_ptr, e_sc0, stV_agg, e_ldcV, nod_arr, ix_te, h0, h1, e_lenA, List.length_map]; subst hK hQ) | refine Jr.go ?_) | refine sd ?_)
  have eW : formW s a t g k c = ⟨txF (s.te.getD t.toNat default).f g k c, a.n, a.t, a.r, a.p, a.d⟩ := rfl
  generalize s.te.getD t.toNat default = e at *
  refine loop_of (fun i : Nat => i ≤ e.f.length ∧ (e.f.take i).all (fun x => !fitF g k c x) = true) (fun i => [.yld b, .cptr (.agg [I g, I k, I c]), .ptr H.length 0, .arr (e.f.map foV) .no, I e.f.length, I i]) (fun _ => H ++ [.cells [T (ByteArray.mk #[]), I a.n, I a.t, I a.r, I a.p, I a.d]]) (fun i => e.f.length - i) 0 ⟨Nat.zero_le _, rfl⟩ rfl rfl ?_
  intro i ⟨hi, hp⟩
  repeat (first | (with_reducible first | refine Ju.go ?_ | (refine Hd.go ?_; intro K Q hK hQ; simp only [List.getD_cons_succ, List.getD_cons_zero, nod_imm, Try.underlying3, e_lss, e_cond, decide_eq_true_eq]; subst hK hQ) | refine Jr.go ?_) | refine sd ?_)
  by_cases hlt : i < e.f.length
  · have d : (i : Int) < e.f.length := by omega
    have hg := getD_someA e.f default hlt
    have hn := all_take e.f default (fun x => !fitF g k c x) hlt
    repeat (first | (with_reducible first | refine Ju.go ?_ | (refine Hd.go ?_; intro K Q hK hQ; simp only [d, if_true, List.getD_cons_succ, List.getD_cons_zero, nod_arr, nd_no, nod_imm, ix_fo, Int.toNat_natCast, true_and, nod_cptr, e_ldcA, lv_cons, List.length_nil, Nat.zero_add, Nat.reduceAdd, nod_agg, List.map_cons, nodL_imm, List.map_nil, e_bxI, okE_agg, all_c, ck_I, ck_str, all_n, Bool.and_self, and_true]; subst hK hQ) | refine Jr.go ?_) | refine sd ?_)
    generalize e.f.getD i default = f at *
    refine calm_of (fun H => c104 g k c f H) ?_
    have ef : (decide (fit1 f.g g = f.g) && (decide (fit1 f.k k = f.k) && decide (fit1 f.c c = f.c))) = fitF g k c f := rfl
    by_cases hf : fitF g k c f = true
    · have hW : formW s a t g k c = ⟨f.t, a.n, a.t, a.r, a.p, a.d⟩ := by
        rw [eW]
        unfold txF
        rw [find_at _ e.f i f hg hf hp]
      rw [hW] at hY
      rw [hf] at ef
      repeat (first | (with_reducible first | refine Ju.go ?_ | (refine Hd.go ?_; intro K Q hK hQ; simp only [nod_cptr, e_fac, Nat.zero_add, lv_cons, List.length_nil, Nat.reduceAdd, Nat.reduceLeDiff, List.getD_cons_zero, true_and, e_ldc, List.getD_cons_succ, nod_imm, e_bd1, okE_I, cl_imm, spl_0, spl_n, spl_s, e_bd0, nod_agg, List.map_cons, nodL_imm, List.map_nil, own0_imm, eq163, ef, e_cond, if_true, nod_ptr, e_fa, Nat.add_zero, e_sc0, stV_imm, okE_str, e_lA0, dr_0, tk_s, tk_0, nod_nod]; subst hK hQ) | refine Jr.go ?_) | refine sd ?_)
      refine ⟨_, _, hY.y _, ?_⟩
      repeat (first | (with_reducible first | refine Ju.go ?_ | (refine Hd.go ?_; intro K Q hK hQ; simp only [Try.underlying3, Try.underlying4, Try.underlying5, Try.underlying9, Try.underlying29, Try.underlying57, Try.underlying55, j_one, j_side, j_tl, j_fl, nod_nod, nod_imm, nod_ints, nd_no, nd_own, nd_full, nd_fO, oF_ap, oF_succ, nod_sl, nod_ptr, nod_cptr, nod_fn, nod_junk, nodL_imm, nod_agg, nod_tup, nod2_imm, nod2_agg, cl_imm, cl_ints, cl_agg, e_add, e_sub, e_mul, e_quo, e_rem, e_eql, e_neq, e_lss, e_leq, e_gtr, e_geq, e_beq, e_bne, e_neg, e_not, e_pick, e_cond, e_gT, e_gF, e_len, e_lenA, e_lenS, e_ix, e_ixS, e_ldc, e_ldci, e_fa, rep_cl, rep_I, e_bx, okE_I, okE_B, okE_E8, okE_ints, stV_imm, stV_ints, j_and', j_or', List.getD_cons_zero, List.getD_cons_succ, List.map_cons, List.map_nil, decide_eq_true_eq, Int.toNat_natCast, Nat.mul_one, Nat.zero_add, true_and, and_true, List.length_map, Bool.not_eq_true', decide_eq_false_iff_not, nod_lists, e_lenL, e_ixL, okE_lists, bs1, bs1L, bs2L, e_app, e_appL, e_app0, e_app0L, e_slcLo, e_slcHi, e_slcLH, e_slcHH, e_slcLHH, e_callG, e_callY, e_calmG, e_slS0, e_slSLo, e_slSHi, e_slSLH, e_slSHH, e_slSLHH, e_max2, e_min2, e_max3, e_x20, e_x21, e_x30, e_x31, e_x32, nod2_ints, nod2_lists, rep_fl, bs0, e_nilE, if_true, if_false, cond_true, cond_false, decide_true, decide_false, eq_self, Bool.false_eq_true, false_implies, true_implies, ap_own, ap_full, e_slcLoL, e_slcHiL, e_slcLHL, hp_assoc, hp_cons, hp_nil, hp_len, hp_len_cons, hp_len_nil, lv_cons, lv_nil, vs_0, vs_s, spl_s, spl_0, spl_n, dr_s, dr_0, tk_s, tk_0, e_bxI, e_fac, e_facA, e_ldcA, e_ldcL, e_ldcF, okE_agg, ck_I, ck_B, ck_ints, ck_lists, ck_arr, ck_ptr, ck_cptr, ck_fn, all_c, all_n, stV_agg, stV_lists, stV_arr, stV_ptr, stV_cptr, stV_fn, nodL_ints, nodL_lists, nodL_ptr, nodL_cptr, nodL_fn, nodL_arr0, cl_arr, cl_ptr, cl_cptr, cl_fn, cl_lists, okE_arr, okE_fn, okE_ptr, okE_cptr, e_bd0, e_bd1, e_wr, Nat.reduceAdd, Nat.reduceLeDiff, Nat.reduceEqDiff, Nat.add_zero, Bool.and_self, Bool.true_and, Bool.and_true, e_lc0, e_lA0, e_lM0, e_sc0, e_rc0, e_rA0, e_lI0, e_sI0, e_cI0, e_lc1, e_lA1, e_lM1, e_sc1, e_rc1, e_rA1, e_lI1, e_sI1, e_cI1, e_lc2, e_lA2, e_lM2, e_sc2, e_rc2, e_rA2, e_lI2, e_sI2, e_cI2, e_lc3, e_lA3, e_lM3, e_sc3, e_rc3, e_rA3, e_lI3, e_sI3, e_cI3, e_lc4, e_lA4, e_lM4, e_sc4, e_rc4, e_rA4, e_lI4, e_sI4, e_cI4, e_lc5, e_lA5, e_lM5, e_sc5, e_rc5, e_rA5, e_lI5, e_sI5, e_cI5, own0_arr, own0_ints, own0_lists, own0_imm, own0_ptr, own0_cptr, own0_fn, own0_agg, e_appB, e_appB0, ck_sl, own0_sl, stV_sl, nodL_sl, cl_sl, okE_sl, e_mkM, e_mkI, e_mkIm, e_callB, nod_bfn, nod_ifc, nod_map, nodL_ifc, nodL_bfn, nodL_map, cl_ifc, cl_bfn, ck_ifc, ck_bfn, ck_map, stV_ifc, okE_ifc, okE_bfn, nod_arr, nodL_arr, e_addU, e_mulU, e_shrK, e_shlK, e_andK, e_cv64, e_cv32, e_callEG, e_callEY, e_callEB, e_zr, e_nilSl, e_ncP, e_ncC, e_npnP, e_npeP, e_npnC, e_npeC, e_npnN, e_npeN, e_ixAP, e_ldcP, e_ldcS, e_ldcV, e_ldcT, okE_nilP, ck_nilP, okE_nilI, ck_nilI, okE_str, ck_str, e_tlen, e_tix, e_teq, e_tne, e_tadd, e_tb, e_u8lss, e_u8gtr, noV_full, nod_arr, List.length_map, reduceIte, Int.reduceEq, Int.reduceNeg, ne_eq, not_true_eq_false, not_false_eq_true, Bool.not_true, Bool.not_false, Bool.true_or, Bool.or_true, Bool.false_or, Bool.or_false, Bool.and_true, Bool.and_false, Bool.false_and, Bool.not_not, Bool.or_self, List.length_nil, Int.ofNat_zero, Int.cast_ofNat_Int, Int.natCast_zero, beq_self_eq_true, Bool.true_eq_false]; subst hK hQ) | refine Jr.go ?_) | refine sd ?_)
      exact end1A (fzI _)
    · rw [Bool.eq_false_iff.2 hf] at ef
      repeat (first | (with_reducible first | refine Ju.go ?_ | (refine Hd.go ?_; intro K Q hK hQ; simp only [nod_cptr, e_fac, Nat.zero_add, lv_cons, List.length_nil, Nat.reduceAdd, Nat.reduceLeDiff, List.getD_cons_zero, true_and, e_ldc, List.getD_cons_succ, nod_imm, e_bd1, okE_I, cl_imm, spl_0, spl_n, spl_s, e_bd0, nod_agg, List.map_cons, nodL_imm, List.map_nil, own0_imm, eq163, ef, e_cond, Bool.false_eq_true, if_false, Try.underlying3, e_add]; subst hK hQ) | refine Jr.go ?_) | refine sd ?_)
      refine ⟨i + 1, ⟨by omega, ?_⟩, rfl, rfl, by omega⟩
      rw [hn, hp, Bool.eq_false_iff.2 hf]; rfl
  · have d : ¬ (i : Int) < e.f.length := by omega
    rw [List.take_of_length_le (by omega)] at hp
    have hW : formW s a t g k c = ⟨ByteArray.mk #[], a.n, a.t, a.r, a.p, a.d⟩ := by
      rw [eW]
      unfold txF
      rw [find_no _ e.f hp]
    rw [hW] at hY
    repeat (first | (with_reducible first | refine Ju.go ?_ | (refine Hd.go ?_; intro K Q hK hQ; simp only [d, if_false, List.getD_cons_zero, List.getD_cons_succ, nod_ptr, e_lA0, Nat.zero_add, lv_cons, List.length_nil, Nat.reduceAdd, Nat.reduceLeDiff, dr_0, tk_s, tk_0, nod_agg, List.map_cons, nodL_imm, List.map_nil, true_and, nod_nod]; subst hK hQ) | refine Jr.go ?_) | refine sd ?_)
    refine ⟨_, _, hY.y _, ?_⟩
    repeat (first | (with_reducible first | refine Ju.go ?_ | (refine Hd.go ?_; intro K Q hK hQ; simp only [Try.underlying3, Try.underlying4, Try.underlying5, Try.underlying9, Try.underlying29, Try.underlying57, Try.underlying55, j_one, j_side, j_tl, j_fl, nod_nod, nod_imm, nod_ints, nd_no, nd_own, nd_full, nd_fO, oF_ap, oF_succ, nod_sl, nod_ptr, nod_cptr, nod_fn, nod_junk, nodL_imm, nod_agg, nod_tup, nod2_imm, nod2_agg, cl_imm, cl_ints, cl_agg, e_add, e_sub, e_mul, e_quo, e_rem, e_eql, e_neq, e_lss, e_leq, e_gtr, e_geq, e_beq, e_bne, e_neg, e_not, e_pick, e_cond, e_gT, e_gF, e_len, e_lenA, e_lenS, e_ix, e_ixS, e_ldc, e_ldci, e_fa, rep_cl, rep_I, e_bx, okE_I, okE_B, okE_E8, okE_ints, stV_imm, stV_ints, j_and', j_or', List.getD_cons_zero, List.getD_cons_succ, List.map_cons, List.map_nil, decide_eq_true_eq, Int.toNat_natCast, Nat.mul_one, Nat.zero_add, true_and, and_true, List.length_map, Bool.not_eq_true', decide_eq_false_iff_not, nod_lists, e_lenL, e_ixL, okE_lists, bs1, bs1L, bs2L, e_app, e_appL, e_app0, e_app0L, e_slcLo, e_slcHi, e_slcLH, e_slcHH, e_slcLHH, e_callG, e_callY, e_calmG, e_slS0, e_slSLo, e_slSHi, e_slSLH, e_slSHH, e_slSLHH, e_max2, e_min2, e_max3, e_x20, e_x21, e_x30, e_x31, e_x32, nod2_ints, nod2_lists, rep_fl, bs0, e_nilE, if_true, if_false, cond_true, cond_false, decide_true, decide_false, eq_self, Bool.false_eq_true, false_implies, true_implies, ap_own, ap_full, e_slcLoL, e_slcHiL, e_slcLHL, hp_assoc, hp_cons, hp_nil, hp_len, hp_len_cons, hp_len_nil, lv_cons, lv_nil, vs_0, vs_s, spl_s, spl_0, spl_n, dr_s, dr_0, tk_s, tk_0, e_bxI, e_fac, e_facA, e_ldcA, e_ldcL, e_ldcF, okE_agg, ck_I, ck_B, ck_ints, ck_lists, ck_arr, ck_ptr, ck_cptr, ck_fn, all_c, all_n, stV_agg, stV_lists, stV_arr, stV_ptr, stV_cptr, stV_fn, nodL_ints, nodL_lists, nodL_ptr, nodL_cptr, nodL_fn, nodL_arr0, cl_arr, cl_ptr, cl_cptr, cl_fn, cl_lists, okE_arr, okE_fn, okE_ptr, okE_cptr, e_bd0, e_bd1, e_wr, Nat.reduceAdd, Nat.reduceLeDiff, Nat.reduceEqDiff, Nat.add_zero, Bool.and_self, Bool.true_and, Bool.and_true, e_lc0, e_lA0, e_lM0, e_sc0, e_rc0, e_rA0, e_lI0, e_sI0, e_cI0, e_lc1, e_lA1, e_lM1, e_sc1, e_rc1, e_rA1, e_lI1, e_sI1, e_cI1, e_lc2, e_lA2, e_lM2, e_sc2, e_rc2, e_rA2, e_lI2, e_sI2, e_cI2, e_lc3, e_lA3, e_lM3, e_sc3, e_rc3, e_rA3, e_lI3, e_sI3, e_cI3, e_lc4, e_lA4, e_lM4, e_sc4, e_rc4, e_rA4, e_lI4, e_sI4, e_cI4, e_lc5, e_lA5, e_lM5, e_sc5, e_rc5, e_rA5, e_lI5, e_sI5, e_cI5, own0_arr, own0_ints, own0_lists, own0_imm, own0_ptr, own0_cptr, own0_fn, own0_agg, e_appB, e_appB0, ck_sl, own0_sl, stV_sl, nodL_sl, cl_sl, okE_sl, e_mkM, e_mkI, e_mkIm, e_callB, nod_bfn, nod_ifc, nod_map, nodL_ifc, nodL_bfn, nodL_map, cl_ifc, cl_bfn, ck_ifc, ck_bfn, ck_map, stV_ifc, okE_ifc, okE_bfn, nod_arr, nodL_arr, e_addU, e_mulU, e_shrK, e_shlK, e_andK, e_cv64, e_cv32, e_callEG, e_callEY, e_callEB, e_zr, e_nilSl, e_ncP, e_ncC, e_npnP, e_npeP, e_npnC, e_npeC, e_npnN, e_npeN, e_ixAP, e_ldcP, e_ldcS, e_ldcV, e_ldcT, okE_nilP, ck_nilP, okE_nilI, ck_nilI, okE_str, ck_str, e_tlen, e_tix, e_teq, e_tne, e_tadd, e_tb, e_u8lss, e_u8gtr, noV_full, nod_arr, List.length_map, reduceIte, Int.reduceEq, Int.reduceNeg, ne_eq, not_true_eq_false, not_false_eq_true, Bool.not_true, Bool.not_false, Bool.true_or, Bool.or_true, Bool.false_or, Bool.or_false, Bool.and_true, Bool.and_false, Bool.false_and, Bool.not_not, Bool.or_self, List.length_nil, Int.ofNat_zero, Int.cast_ofNat_Int, Int.natCast_zero, beq_self_eq_true, Bool.true_eq_false]; subst hK hQ) | refine Jr.go ?_) | refine sd ?_)
    exact end1A (fzI _)
end Go.Proofs.Ytgodfjbmblghnaa


set_option linter.unusedVariables false
set_option linter.unusedSimpArgs false
set_option linter.unnecessarySimpa false
set_option maxRecDepth 20000
set_option maxHeartbeats 2000000
namespace Go.Proofs.Ytgodfjbmblghnaa
open Go Go.Ab Go.Proofs
attribute [local congr] g_bin g_nilS g_nilP g_un g_ext g_bx g_fa g_ld g_st g_ix g_ixA g_slc g_mk g_bs g_bd g_nc g_cv g_len g_lenT g_app g_appB g_cpy g_mm g_call g_callG g_calm g_calmG g_range g_res g_pick g_cond g_loop g_Jv g_eqS g_eqP g_fd g_ixT g_ta g_lkp g_upd g_mkM g_appS g_inv g_callE g_callEG g_invE g_zr g_wr
theorem Y1.ext {b : Nat} {w : Sd} {H H1 : Hp} {ok : Bool} (h : Y1 b w H ok H1) (X : Hp) : Y1 b w (H ++ X) ok (H1 ++ X) := by
  refine ⟨fun Z => by rw [List.append_assoc, List.append_assoc]; exact h.y _, by simp [h.len], ?_⟩
  rcases h.hb with e | hb
  · exact .inl (by rw [e])
  · refine .inr fun i blk hi => ?_
    by_cases hl : i < H1.length
    · rw [List.getElem?_append_left hl] at hi
      rw [List.getElem?_append_left (by rw [← h.len]; exact hl)]
      rcases hb i blk hi with h1 | h1
      · exact .inl h1
      · exact .inr (h1.mono (by simp))
    · left
      rw [List.getElem?_append_right (by omega)] at hi
      rw [List.getElem?_append_right (by rw [← h.len]; omega), ← h.len]
      exact hi
inductive Ys (b : Nat) : List Sd → Hp → Bool → Hp → Prop
  | nil (H : Hp) : Ys b [] H true H
  | stop (w : Sd) (ws : List Sd) (H H1 : Hp) (h : Y1 b w H false H1) : Ys b (w :: ws) H false H1
  | go (w : Sd) (ws : List Sd) (H H1 H2 : Hp) (ok : Bool) (h : Y1 b w H true H1) (r : Ys b ws H1 ok H2) : Ys b (w :: ws) H ok H2
theorem hb_trans {H H1 H2 : Hp} (l1 : H1.length = H.length) (l2 : H2.length = H1.length) (h1 : H1 = H ∨ ∀ (i : Nat) (blk : Blk), H1[i]? = some blk → H[i]? = some blk ∨ BelB H1.length blk) (h2 : H2 = H1 ∨ ∀ (i : Nat) (blk : Blk), H2[i]? = some blk → H1[i]? = some blk ∨ BelB H2.length blk) :
    H2 = H ∨ ∀ (i : Nat) (blk : Blk), H2[i]? = some blk → H[i]? = some blk ∨ BelB H2.length blk := by
  rcases h1 with rfl | h1
  · exact h2
  · rcases h2 with rfl | h2
    · exact .inr h1
    · refine .inr fun i blk hi => ?_
      rcases h2 i blk hi with h | h
      · rw [l2]; exact h1 i blk h
      · exact .inr h
theorem Ys.len {b : Nat} {ws : List Sd} {H H1 : Hp} {ok : Bool} (h : Ys b ws H ok H1) : H1.length = H.length := by
  induction h with
  | nil => rfl
  | stop w ws H H1 h => exact h.len
  | go w ws H H1 H2 ok h r ih => rw [ih, h.len]
theorem Ys.hb {b : Nat} {ws : List Sd} {H H1 : Hp} {ok : Bool} (h : Ys b ws H ok H1) : H1 = H ∨ ∀ (i : Nat) (blk : Blk), H1[i]? = some blk → H[i]? = some blk ∨ BelB H1.length blk := by
  induction h with
  | nil => exact .inl rfl
  | stop w ws H H1 h => exact h.hb
  | go w ws H H1 H2 ok h r ih => exact hb_trans h.len r.len h.hb ih
theorem Ys.ext {b : Nat} {ws : List Sd} {H H1 : Hp} {ok : Bool} (h : Ys b ws H ok H1) (X : Hp) : Ys b ws (H ++ X) ok (H1 ++ X) := by
  induction h with
  | nil => exact .nil _
  | stop w ws H H1 h => exact .stop _ _ _ _ (h.ext X)
  | go w ws H H1 H2 ok h r ih => exact .go _ _ _ _ _ _ (h.ext X) ih
theorem Ys.split {b : Nat} {u v : List Sd} : ∀ {H H1 : Hp} {ok : Bool}, Ys b (u ++ v) H ok H1 → (∃ H2, Ys b u H true H2 ∧ Ys b v H2 ok H1) ∨ (Ys b u H false H1 ∧ ok = false) := by
  induction u with
  | nil => intro H H1 ok h; exact .inl ⟨H, .nil H, h⟩
  | cons w u ih =>
    intro H H1 ok h
    cases h with
    | stop _ _ _ _ h => exact .inr ⟨.stop _ _ _ _ h, rfl⟩
    | go _ _ _ H2 _ _ h r =>
      rcases ih r with ⟨H3, h3, h4⟩ | ⟨h3, h4⟩
      · exact .inl ⟨H3, .go _ _ _ _ _ _ h h3, h4⟩
      · exact .inr ⟨.go _ _ _ _ _ _ h h3, h4⟩
theorem Ys.one {b : Nat} {w : Sd} {H H1 : Hp} {ok : Bool} (h : Ys b [w] H ok H1) : Y1 b w H ok H1 := by
  cases h with
  | stop _ _ _ _ h => exact h
  | go _ _ _ H2 _ _ h r => cases r; exact h
theorem Ys.none {b : Nat} {H H1 : Hp} {ok : Bool} (h : Ys b [] H ok H1) : ok = true ∧ H1 = H := by
  cases h; exact ⟨rfl, rfl⟩
theorem c98 (s : Sy) (a : At) (p : Pi) (b : Nat) (H H1 : Hp) (ok : Bool) (sm : Sm s) (hm : ∀ p, p ∈ s.pl → 1 ≤ p.m) (h0 : 0 ≤ p.t) (h1 : p.t < s.te.length) (hY : Y1 b (formW s a p.t a.g a.k (clsOf s.pl a.n)) H ok H1) :
    Ret Try.prog 98 [syV s, atV a, piV p, .yld b] H (B ok) H1 := by
  have hl := (sm.fo _ (getD_memA s.te default (show p.t.toNat < s.te.length by omega))).1
  refine mk98 _ _ _ _ rfl (Nat.le_of_eq hY.len.symm) hY.hb ?_
  simp only [vc98, real]
  repeat (first | (with_reducible first | refine Ju.go ?_ | (refine Hd.go ?_; intro K Q hK hQ; simp only [nod_agg, List.map_cons, nodL_imm, nodL_arr, nd_no, List.map_nil, e_bxI, okE_agg, lv_cons, List.length_nil, Nat.zero_add, Nat.reduceAdd, all_c, ck_I, ck_arr, all_n, Bool.and_self, and_true, true_and, nod_cptr, e_ldcA, e_fac, Nat.reduceLeDiff, List.getD_cons_succ, List.getD_cons_zero, e_ldc, e_facA, dr_0, tk_s, tk_0, nod_imm]; subst hK hQ) | refine Jr.go ?_) | refine sd ?_)
  refine calm_of (fun H => c42 s a.n H sm hm) ?_
  repeat (first | (with_reducible first | refine Ju.go ?_ | (refine Hd.go ?_; intro K Q hK hQ; simp only [nod_imm, e_bd1, okE_I, Nat.zero_add, lv_cons, List.length_nil, Nat.reduceAdd, Nat.reduceLeDiff, cl_imm, spl_0, spl_n, spl_s, e_bd0, true_and, nod_agg, List.map_cons, nodL_imm, nodL_arr, nd_no, List.map_nil, own0_imm, nod_nod]; subst hK hQ) | refine Jr.go ?_) | refine sd ?_)
  refine call_ofD (c103 s a p.t a.g a.k _ b H H1 ok h0 h1 hl hY) ?_
  repeat (first | (with_reducible first | refine Ju.go ?_ | (refine Hd.go ?_; intro K Q hK hQ; simp only [Try.underlying3, Try.underlying4, Try.underlying5, Try.underlying9, Try.underlying29, Try.underlying57, Try.underlying55, j_one, j_side, j_tl, j_fl, nod_nod, nod_imm, nod_ints, nd_no, nd_own, nd_full, nd_fO, oF_ap, oF_succ, nod_sl, nod_ptr, nod_cptr, nod_fn, nod_junk, nodL_imm, nod_agg, nod_tup, nod2_imm, nod2_agg, cl_imm, cl_ints, cl_agg, e_add, e_sub, e_mul, e_quo, e_rem, e_eql, e_neq, e_lss, e_leq, e_gtr, e_geq, e_beq, e_bne, e_neg, e_not, e_pick, e_cond, e_gT, e_gF, e_len, e_lenA, e_lenS, e_ix, e_ixS, e_ldc, e_ldci, e_fa, rep_cl, rep_I, e_bx, okE_I, okE_B, okE_E8, okE_ints, stV_imm, stV_ints, j_and', j_or', List.getD_cons_zero, List.getD_cons_succ, List.map_cons, List.map_nil, decide_eq_true_eq, Int.toNat_natCast, Nat.mul_one, Nat.zero_add, true_and, and_true, List.length_map, Bool.not_eq_true', decide_eq_false_iff_not, nod_lists, e_lenL, e_ixL, okE_lists, bs1, bs1L, bs2L, e_app, e_appL, e_app0, e_app0L, e_slcLo, e_slcHi, e_slcLH, e_slcHH, e_slcLHH, e_callG, e_callY, e_calmG, e_slS0, e_slSLo, e_slSHi, e_slSLH, e_slSHH, e_slSLHH, e_max2, e_min2, e_max3, e_x20, e_x21, e_x30, e_x31, e_x32, nod2_ints, nod2_lists, rep_fl, bs0, e_nilE, if_true, if_false, cond_true, cond_false, decide_true, decide_false, eq_self, Bool.false_eq_true, false_implies, true_implies, ap_own, ap_full, e_slcLoL, e_slcHiL, e_slcLHL, hp_assoc, hp_cons, hp_nil, hp_len, hp_len_cons, hp_len_nil, lv_cons, lv_nil, vs_0, vs_s, spl_s, spl_0, spl_n, dr_s, dr_0, tk_s, tk_0, e_bxI, e_fac, e_facA, e_ldcA, e_ldcL, e_ldcF, okE_agg, ck_I, ck_B, ck_ints, ck_lists, ck_arr, ck_ptr, ck_cptr, ck_fn, all_c, all_n, stV_agg, stV_lists, stV_arr, stV_ptr, stV_cptr, stV_fn, nodL_ints, nodL_lists, nodL_ptr, nodL_cptr, nodL_fn, nodL_arr0, cl_arr, cl_ptr, cl_cptr, cl_fn, cl_lists, okE_arr, okE_fn, okE_ptr, okE_cptr, e_bd0, e_bd1, e_wr, Nat.reduceAdd, Nat.reduceLeDiff, Nat.reduceEqDiff, Nat.add_zero, Bool.and_self, Bool.true_and, Bool.and_true, e_lc0, e_lA0, e_lM0, e_sc0, e_rc0, e_rA0, e_lI0, e_sI0, e_cI0, e_lc1, e_lA1, e_lM1, e_sc1, e_rc1, e_rA1, e_lI1, e_sI1, e_cI1, e_lc2, e_lA2, e_lM2, e_sc2, e_rc2, e_rA2, e_lI2, e_sI2, e_cI2, e_lc3, e_lA3, e_lM3, e_sc3, e_rc3, e_rA3, e_lI3, e_sI3, e_cI3, e_lc4, e_lA4, e_lM4, e_sc4, e_rc4, e_rA4, e_lI4, e_sI4, e_cI4, e_lc5, e_lA5, e_lM5, e_sc5, e_rc5, e_rA5, e_lI5, e_sI5, e_cI5, own0_arr, own0_ints, own0_lists, own0_imm, own0_ptr, own0_cptr, own0_fn, own0_agg, e_appB, e_appB0, ck_sl, own0_sl, stV_sl, nodL_sl, cl_sl, okE_sl, e_mkM, e_mkI, e_mkIm, e_callB, nod_bfn, nod_ifc, nod_map, nodL_ifc, nodL_bfn, nodL_map, cl_ifc, cl_bfn, ck_ifc, ck_bfn, ck_map, stV_ifc, okE_ifc, okE_bfn, nod_arr, nodL_arr, e_addU, e_mulU, e_shrK, e_shlK, e_andK, e_cv64, e_cv32, e_callEG, e_callEY, e_callEB, e_zr, e_nilSl, e_ncP, e_ncC, e_npnP, e_npeP, e_npnC, e_npeC, e_npnN, e_npeN, e_ixAP, e_ldcP, e_ldcS, e_ldcV, e_ldcT, okE_nilP, ck_nilP, okE_nilI, ck_nilI, okE_str, ck_str, e_tlen, e_tix, e_teq, e_tne, e_tadd, e_tb, e_u8lss, e_u8gtr, noV_full, nod_arr, List.length_map, reduceIte, Int.reduceEq, Int.reduceNeg, ne_eq, not_true_eq_false, not_false_eq_true, Bool.not_true, Bool.not_false, Bool.true_or, Bool.or_true, Bool.false_or, Bool.or_false, Bool.and_true, Bool.and_false, Bool.false_and, Bool.not_not, Bool.or_self, List.length_nil, Int.ofNat_zero, Int.cast_ofNat_Int, Int.natCast_zero, beq_self_eq_true, Bool.true_eq_false]; subst hK hQ) | refine Jr.go ?_) | refine sd ?_)
  exact ⟨fzI _, by simp⟩
theorem c99 (s : Sy) (a : At) (p : Pi) (b : Nat) (H H1 : Hp) (ok : Bool) (sm : Sm s) (hm : ∀ p, p ∈ s.pl → 1 ≤ p.m) (h0 : 0 ≤ p.t) (h1 : p.t < s.te.length) (hY : Y1 b (formW s a p.t (s.te.getD p.t.toNat default).g a.k (clsOf s.pl a.q)) H ok H1) :
    Ret Try.prog 99 [syV s, atV a, piV p, .yld b] H (B ok) H1 := by
  have hl := (sm.fo _ (getD_memA s.te default (show p.t.toNat < s.te.length by omega))).1
  refine mk99 _ _ _ _ rfl (Nat.le_of_eq hY.len.symm) hY.hb ?_
  simp only [vc99, real]
  repeat (first | (with_reducible first | refine Ju.go ?_ | (refine Hd.go ?_; intro K Q hK hQ; simp only [nod_agg, List.map_cons, nodL_imm, nodL_arr, nd_no, List.map_nil, e_bxI, okE_agg, lv_cons, List.length_nil, Nat.zero_add, Nat.reduceAdd, all_c, ck_I, ck_arr, all_n, Bool.and_self, and_true, true_and, nod_cptr, e_ldcA, e_fac, Nat.reduceLeDiff, List.getD_cons_succ, List.getD_cons_zero, e_ldc, e_facA, dr_0, tk_s, tk_0, e_ldcV, nod_arr, nod_imm, ix_te, h0, h1]; subst hK hQ) | refine Jr.go ?_) | refine sd ?_)
  refine calm_of (fun H => c42 s a.q H sm hm) ?_
  repeat (first | (with_reducible first | refine Ju.go ?_ | (refine Hd.go ?_; intro K Q hK hQ; simp only [nod_imm, e_bd1, okE_I, Nat.zero_add, lv_cons, List.length_nil, Nat.reduceAdd, Nat.reduceLeDiff, cl_imm, spl_0, spl_n, spl_s, e_bd0, true_and, nod_agg, List.map_cons, nodL_imm, nodL_arr, nd_no, List.map_nil, own0_imm, nod_nod]; subst hK hQ) | refine Jr.go ?_) | refine sd ?_)
  refine call_ofD (c103 s a p.t _ a.k _ b H H1 ok h0 h1 hl hY) ?_
  repeat (first | (with_reducible first | refine Ju.go ?_ | (refine Hd.go ?_; intro K Q hK hQ; simp only [Try.underlying3, Try.underlying4, Try.underlying5, Try.underlying9, Try.underlying29, Try.underlying57, Try.underlying55, j_one, j_side, j_tl, j_fl, nod_nod, nod_imm, nod_ints, nd_no, nd_own, nd_full, nd_fO, oF_ap, oF_succ, nod_sl, nod_ptr, nod_cptr, nod_fn, nod_junk, nodL_imm, nod_agg, nod_tup, nod2_imm, nod2_agg, cl_imm, cl_ints, cl_agg, e_add, e_sub, e_mul, e_quo, e_rem, e_eql, e_neq, e_lss, e_leq, e_gtr, e_geq, e_beq, e_bne, e_neg, e_not, e_pick, e_cond, e_gT, e_gF, e_len, e_lenA, e_lenS, e_ix, e_ixS, e_ldc, e_ldci, e_fa, rep_cl, rep_I, e_bx, okE_I, okE_B, okE_E8, okE_ints, stV_imm, stV_ints, j_and', j_or', List.getD_cons_zero, List.getD_cons_succ, List.map_cons, List.map_nil, decide_eq_true_eq, Int.toNat_natCast, Nat.mul_one, Nat.zero_add, true_and, and_true, List.length_map, Bool.not_eq_true', decide_eq_false_iff_not, nod_lists, e_lenL, e_ixL, okE_lists, bs1, bs1L, bs2L, e_app, e_appL, e_app0, e_app0L, e_slcLo, e_slcHi, e_slcLH, e_slcHH, e_slcLHH, e_callG, e_callY, e_calmG, e_slS0, e_slSLo, e_slSHi, e_slSLH, e_slSHH, e_slSLHH, e_max2, e_min2, e_max3, e_x20, e_x21, e_x30, e_x31, e_x32, nod2_ints, nod2_lists, rep_fl, bs0, e_nilE, if_true, if_false, cond_true, cond_false, decide_true, decide_false, eq_self, Bool.false_eq_true, false_implies, true_implies, ap_own, ap_full, e_slcLoL, e_slcHiL, e_slcLHL, hp_assoc, hp_cons, hp_nil, hp_len, hp_len_cons, hp_len_nil, lv_cons, lv_nil, vs_0, vs_s, spl_s, spl_0, spl_n, dr_s, dr_0, tk_s, tk_0, e_bxI, e_fac, e_facA, e_ldcA, e_ldcL, e_ldcF, okE_agg, ck_I, ck_B, ck_ints, ck_lists, ck_arr, ck_ptr, ck_cptr, ck_fn, all_c, all_n, stV_agg, stV_lists, stV_arr, stV_ptr, stV_cptr, stV_fn, nodL_ints, nodL_lists, nodL_ptr, nodL_cptr, nodL_fn, nodL_arr0, cl_arr, cl_ptr, cl_cptr, cl_fn, cl_lists, okE_arr, okE_fn, okE_ptr, okE_cptr, e_bd0, e_bd1, e_wr, Nat.reduceAdd, Nat.reduceLeDiff, Nat.reduceEqDiff, Nat.add_zero, Bool.and_self, Bool.true_and, Bool.and_true, e_lc0, e_lA0, e_lM0, e_sc0, e_rc0, e_rA0, e_lI0, e_sI0, e_cI0, e_lc1, e_lA1, e_lM1, e_sc1, e_rc1, e_rA1, e_lI1, e_sI1, e_cI1, e_lc2, e_lA2, e_lM2, e_sc2, e_rc2, e_rA2, e_lI2, e_sI2, e_cI2, e_lc3, e_lA3, e_lM3, e_sc3, e_rc3, e_rA3, e_lI3, e_sI3, e_cI3, e_lc4, e_lA4, e_lM4, e_sc4, e_rc4, e_rA4, e_lI4, e_sI4, e_cI4, e_lc5, e_lA5, e_lM5, e_sc5, e_rc5, e_rA5, e_lI5, e_sI5, e_cI5, own0_arr, own0_ints, own0_lists, own0_imm, own0_ptr, own0_cptr, own0_fn, own0_agg, e_appB, e_appB0, ck_sl, own0_sl, stV_sl, nodL_sl, cl_sl, okE_sl, e_mkM, e_mkI, e_mkIm, e_callB, nod_bfn, nod_ifc, nod_map, nodL_ifc, nodL_bfn, nodL_map, cl_ifc, cl_bfn, ck_ifc, ck_bfn, ck_map, stV_ifc, okE_ifc, okE_bfn, nod_arr, nodL_arr, e_addU, e_mulU, e_shrK, e_shlK, e_andK, e_cv64, e_cv32, e_callEG, e_callEY, e_callEB, e_zr, e_nilSl, e_ncP, e_ncC, e_npnP, e_npeP, e_npnC, e_npeC, e_npnN, e_npeN, e_ixAP, e_ldcP, e_ldcS, e_ldcV, e_ldcT, okE_nilP, ck_nilP, okE_nilI, ck_nilI, okE_str, ck_str, e_tlen, e_tix, e_teq, e_tne, e_tadd, e_tb, e_u8lss, e_u8gtr, noV_full, nod_arr, List.length_map, reduceIte, Int.reduceEq, Int.reduceNeg, ne_eq, not_true_eq_false, not_false_eq_true, Bool.not_true, Bool.not_false, Bool.true_or, Bool.or_true, Bool.false_or, Bool.or_false, Bool.and_true, Bool.and_false, Bool.false_and, Bool.not_not, Bool.or_self, List.length_nil, Int.ofNat_zero, Int.cast_ofNat_Int, Int.natCast_zero, beq_self_eq_true, Bool.true_eq_false]; subst hK hQ) | refine Jr.go ?_) | refine sd ?_)
  exact ⟨fzI _, by simp⟩
theorem c100 (s : Sy) (a : At) (p : Pi) (b : Nat) (H H1 : Hp) (ok : Bool) (ws : List Sd) (hY : Ys b ws H ok H1) (hd : R64 (a.d + 1)) (hS : Ret Try.prog 84 [syV s, .agg [I a.q, I p.s, I a.c, I a.k], I (a.d + 1), .yld b] H (B ok) H1) :
    Ret Try.prog 100 [syV s, atV a, piV p, .yld b] H (B ok) H1 := by
  refine mk100 _ _ _ _ rfl (Nat.le_of_eq hY.len.symm) hY.hb ?_
  simp only [vc100, real]
  repeat (first | (with_reducible first | refine Ju.go ?_ | (refine Hd.go ?_; intro K Q hK hQ; simp only [nod_agg, List.map_cons, nodL_imm, nodL_arr, nd_no, List.map_nil, e_bxI, okE_agg, lv_cons, List.length_nil, Nat.zero_add, Nat.reduceAdd, all_c, ck_I, ck_arr, all_n, Bool.and_self, and_true, true_and, nod_cptr, e_ldcA, e_fac, Nat.reduceLeDiff, List.getD_cons_succ, List.getD_cons_zero, e_ldc, e_facA, dr_0, tk_s, tk_0, nod_imm, e_bd1, okE_I, cl_imm, spl_0, spl_n, spl_s, e_bd0, Try.underlying3, e_add, hd, own0_imm, nod_nod]; subst hK hQ) | refine Jr.go ?_) | refine sd ?_)
  refine call_of hS ?_
  repeat (first | (with_reducible first | refine Ju.go ?_ | (refine Hd.go ?_; intro K Q hK hQ; simp only [Try.underlying3, Try.underlying4, Try.underlying5, Try.underlying9, Try.underlying29, Try.underlying57, Try.underlying55, j_one, j_side, j_tl, j_fl, nod_nod, nod_imm, nod_ints, nd_no, nd_own, nd_full, nd_fO, oF_ap, oF_succ, nod_sl, nod_ptr, nod_cptr, nod_fn, nod_junk, nodL_imm, nod_agg, nod_tup, nod2_imm, nod2_agg, cl_imm, cl_ints, cl_agg, e_add, e_sub, e_mul, e_quo, e_rem, e_eql, e_neq, e_lss, e_leq, e_gtr, e_geq, e_beq, e_bne, e_neg, e_not, e_pick, e_cond, e_gT, e_gF, e_len, e_lenA, e_lenS, e_ix, e_ixS, e_ldc, e_ldci, e_fa, rep_cl, rep_I, e_bx, okE_I, okE_B, okE_E8, okE_ints, stV_imm, stV_ints, j_and', j_or', List.getD_cons_zero, List.getD_cons_succ, List.map_cons, List.map_nil, decide_eq_true_eq, Int.toNat_natCast, Nat.mul_one, Nat.zero_add, true_and, and_true, List.length_map, Bool.not_eq_true', decide_eq_false_iff_not, nod_lists, e_lenL, e_ixL, okE_lists, bs1, bs1L, bs2L, e_app, e_appL, e_app0, e_app0L, e_slcLo, e_slcHi, e_slcLH, e_slcHH, e_slcLHH, e_callG, e_callY, e_calmG, e_slS0, e_slSLo, e_slSHi, e_slSLH, e_slSHH, e_slSLHH, e_max2, e_min2, e_max3, e_x20, e_x21, e_x30, e_x31, e_x32, nod2_ints, nod2_lists, rep_fl, bs0, e_nilE, if_true, if_false, cond_true, cond_false, decide_true, decide_false, eq_self, Bool.false_eq_true, false_implies, true_implies, ap_own, ap_full, e_slcLoL, e_slcHiL, e_slcLHL, hp_assoc, hp_cons, hp_nil, hp_len, hp_len_cons, hp_len_nil, lv_cons, lv_nil, vs_0, vs_s, spl_s, spl_0, spl_n, dr_s, dr_0, tk_s, tk_0, e_bxI, e_fac, e_facA, e_ldcA, e_ldcL, e_ldcF, okE_agg, ck_I, ck_B, ck_ints, ck_lists, ck_arr, ck_ptr, ck_cptr, ck_fn, all_c, all_n, stV_agg, stV_lists, stV_arr, stV_ptr, stV_cptr, stV_fn, nodL_ints, nodL_lists, nodL_ptr, nodL_cptr, nodL_fn, nodL_arr0, cl_arr, cl_ptr, cl_cptr, cl_fn, cl_lists, okE_arr, okE_fn, okE_ptr, okE_cptr, e_bd0, e_bd1, e_wr, Nat.reduceAdd, Nat.reduceLeDiff, Nat.reduceEqDiff, Nat.add_zero, Bool.and_self, Bool.true_and, Bool.and_true, e_lc0, e_lA0, e_lM0, e_sc0, e_rc0, e_rA0, e_lI0, e_sI0, e_cI0, e_lc1, e_lA1, e_lM1, e_sc1, e_rc1, e_rA1, e_lI1, e_sI1, e_cI1, e_lc2, e_lA2, e_lM2, e_sc2, e_rc2, e_rA2, e_lI2, e_sI2, e_cI2, e_lc3, e_lA3, e_lM3, e_sc3, e_rc3, e_rA3, e_lI3, e_sI3, e_cI3, e_lc4, e_lA4, e_lM4, e_sc4, e_rc4, e_rA4, e_lI4, e_sI4, e_cI4, e_lc5, e_lA5, e_lM5, e_sc5, e_rc5, e_rA5, e_lI5, e_sI5, e_cI5, own0_arr, own0_ints, own0_lists, own0_imm, own0_ptr, own0_cptr, own0_fn, own0_agg, e_appB, e_appB0, ck_sl, own0_sl, stV_sl, nodL_sl, cl_sl, okE_sl, e_mkM, e_mkI, e_mkIm, e_callB, nod_bfn, nod_ifc, nod_map, nodL_ifc, nodL_bfn, nodL_map, cl_ifc, cl_bfn, ck_ifc, ck_bfn, ck_map, stV_ifc, okE_ifc, okE_bfn, nod_arr, nodL_arr, e_addU, e_mulU, e_shrK, e_shlK, e_andK, e_cv64, e_cv32, e_callEG, e_callEY, e_callEB, e_zr, e_nilSl, e_ncP, e_ncC, e_npnP, e_npeP, e_npnC, e_npeC, e_npnN, e_npeN, e_ixAP, e_ldcP, e_ldcS, e_ldcV, e_ldcT, okE_nilP, ck_nilP, okE_nilI, ck_nilI, okE_str, ck_str, e_tlen, e_tix, e_teq, e_tne, e_tadd, e_tb, e_u8lss, e_u8gtr, noV_full, nod_arr, List.length_map, reduceIte, Int.reduceEq, Int.reduceNeg, ne_eq, not_true_eq_false, not_false_eq_true, Bool.not_true, Bool.not_false, Bool.true_or, Bool.or_true, Bool.false_or, Bool.or_false, Bool.and_true, Bool.and_false, Bool.false_and, Bool.not_not, Bool.or_self, List.length_nil, Int.ofNat_zero, Int.cast_ofNat_Int, Int.natCast_zero, beq_self_eq_true, Bool.true_eq_false]; subst hK hQ) | refine Jr.go ?_) | refine sd ?_)
  exact ⟨fzI _, by simp⟩
theorem c101 (s : Sy) (a : At) (p : Pi) (b : Nat) (H H1 : Hp) (ok : Bool) (ws : List Sd) (hY : Ys b ws H ok H1) (hd : R64 (a.d + 1)) (hz : a.e = 0 → ok = true ∧ H1 = H) (hS : a.e ≠ 0 → Ret Try.prog 84 [syV s, .agg [I a.e, I p.s, I a.g, I a.k], I (a.d + 1), .yld b] H (B ok) H1) :
    Ret Try.prog 101 [syV s, atV a, piV p, .yld b] H (B ok) H1 := by
  refine mk101 _ _ _ _ rfl (Nat.le_of_eq hY.len.symm) hY.hb ?_
  simp only [vc101, real]
  repeat (first | (with_reducible first | refine Ju.go ?_ | (refine Hd.go ?_; intro K Q hK hQ; simp only [nod_agg, List.map_cons, nodL_imm, nodL_arr, nd_no, List.map_nil, e_bxI, okE_agg, lv_cons, List.length_nil, Nat.zero_add, Nat.reduceAdd, all_c, ck_I, ck_arr, all_n, Bool.and_self, and_true, true_and, nod_cptr, e_fac, Nat.reduceLeDiff, List.getD_cons_succ, List.getD_cons_zero, e_ldc, nod_imm, Try.underlying3, e_eql, e_cond, decide_eq_true_eq]; subst hK hQ) | refine Jr.go ?_) | refine sd ?_)
  by_cases h : a.e = 0
  · obtain ⟨rfl, rfl⟩ := hz h
    repeat (first | (with_reducible first | refine Ju.go ?_ | (refine Hd.go ?_; intro K Q hK hQ; simp only [h, if_true]; subst hK hQ) | refine Jr.go ?_) | refine sd ?_)
    exact ⟨fzI _, by simp⟩
  · repeat (first | (with_reducible first | refine Ju.go ?_ | (refine Hd.go ?_; intro K Q hK hQ; simp only [h, if_false, nod_cptr, e_ldcA, lv_cons, List.length_nil, Nat.zero_add, Nat.reduceAdd, true_and, e_fac, Nat.reduceLeDiff, List.getD_cons_succ, List.getD_cons_zero, e_ldc, e_facA, dr_0, tk_s, tk_0, nod_imm, e_bd1, okE_I, cl_imm, spl_0, spl_n, spl_s, e_bd0, Try.underlying3, e_add, hd, nod_agg, List.map_cons, nodL_imm, nodL_arr, nd_no, List.map_nil, own0_imm, nod_nod]; subst hK hQ) | refine Jr.go ?_) | refine sd ?_)
    refine call_of (hS h) ?_
    repeat (first | (with_reducible first | refine Ju.go ?_ | (refine Hd.go ?_; intro K Q hK hQ; simp only [Try.underlying3, Try.underlying4, Try.underlying5, Try.underlying9, Try.underlying29, Try.underlying57, Try.underlying55, j_one, j_side, j_tl, j_fl, nod_nod, nod_imm, nod_ints, nd_no, nd_own, nd_full, nd_fO, oF_ap, oF_succ, nod_sl, nod_ptr, nod_cptr, nod_fn, nod_junk, nodL_imm, nod_agg, nod_tup, nod2_imm, nod2_agg, cl_imm, cl_ints, cl_agg, e_add, e_sub, e_mul, e_quo, e_rem, e_eql, e_neq, e_lss, e_leq, e_gtr, e_geq, e_beq, e_bne, e_neg, e_not, e_pick, e_cond, e_gT, e_gF, e_len, e_lenA, e_lenS, e_ix, e_ixS, e_ldc, e_ldci, e_fa, rep_cl, rep_I, e_bx, okE_I, okE_B, okE_E8, okE_ints, stV_imm, stV_ints, j_and', j_or', List.getD_cons_zero, List.getD_cons_succ, List.map_cons, List.map_nil, decide_eq_true_eq, Int.toNat_natCast, Nat.mul_one, Nat.zero_add, true_and, and_true, List.length_map, Bool.not_eq_true', decide_eq_false_iff_not, nod_lists, e_lenL, e_ixL, okE_lists, bs1, bs1L, bs2L, e_app, e_appL, e_app0, e_app0L, e_slcLo, e_slcHi, e_slcLH, e_slcHH, e_slcLHH, e_callG, e_callY, e_calmG, e_slS0, e_slSLo, e_slSHi, e_slSLH, e_slSHH, e_slSLHH, e_max2, e_min2, e_max3, e_x20, e_x21, e_x30, e_x31, e_x32, nod2_ints, nod2_lists, rep_fl, bs0, e_nilE, if_true, if_false, cond_true, cond_false, decide_true, decide_false, eq_self, Bool.false_eq_true, false_implies, true_implies, ap_own, ap_full, e_slcLoL, e_slcHiL, e_slcLHL, hp_assoc, hp_cons, hp_nil, hp_len, hp_len_cons, hp_len_nil, lv_cons, lv_nil, vs_0, vs_s, spl_s, spl_0, spl_n, dr_s, dr_0, tk_s, tk_0, e_bxI, e_fac, e_facA, e_ldcA, e_ldcL, e_ldcF, okE_agg, ck_I, ck_B, ck_ints, ck_lists, ck_arr, ck_ptr, ck_cptr, ck_fn, all_c, all_n, stV_agg, stV_lists, stV_arr, stV_ptr, stV_cptr, stV_fn, nodL_ints, nodL_lists, nodL_ptr, nodL_cptr, nodL_fn, nodL_arr0, cl_arr, cl_ptr, cl_cptr, cl_fn, cl_lists, okE_arr, okE_fn, okE_ptr, okE_cptr, e_bd0, e_bd1, e_wr, Nat.reduceAdd, Nat.reduceLeDiff, Nat.reduceEqDiff, Nat.add_zero, Bool.and_self, Bool.true_and, Bool.and_true, e_lc0, e_lA0, e_lM0, e_sc0, e_rc0, e_rA0, e_lI0, e_sI0, e_cI0, e_lc1, e_lA1, e_lM1, e_sc1, e_rc1, e_rA1, e_lI1, e_sI1, e_cI1, e_lc2, e_lA2, e_lM2, e_sc2, e_rc2, e_rA2, e_lI2, e_sI2, e_cI2, e_lc3, e_lA3, e_lM3, e_sc3, e_rc3, e_rA3, e_lI3, e_sI3, e_cI3, e_lc4, e_lA4, e_lM4, e_sc4, e_rc4, e_rA4, e_lI4, e_sI4, e_cI4, e_lc5, e_lA5, e_lM5, e_sc5, e_rc5, e_rA5, e_lI5, e_sI5, e_cI5, own0_arr, own0_ints, own0_lists, own0_imm, own0_ptr, own0_cptr, own0_fn, own0_agg, e_appB, e_appB0, ck_sl, own0_sl, stV_sl, nodL_sl, cl_sl, okE_sl, e_mkM, e_mkI, e_mkIm, e_callB, nod_bfn, nod_ifc, nod_map, nodL_ifc, nodL_bfn, nodL_map, cl_ifc, cl_bfn, ck_ifc, ck_bfn, ck_map, stV_ifc, okE_ifc, okE_bfn, nod_arr, nodL_arr, e_addU, e_mulU, e_shrK, e_shlK, e_andK, e_cv64, e_cv32, e_callEG, e_callEY, e_callEB, e_zr, e_nilSl, e_ncP, e_ncC, e_npnP, e_npeP, e_npnC, e_npeC, e_npnN, e_npeN, e_ixAP, e_ldcP, e_ldcS, e_ldcV, e_ldcT, okE_nilP, ck_nilP, okE_nilI, ck_nilI, okE_str, ck_str, e_tlen, e_tix, e_teq, e_tne, e_tadd, e_tb, e_u8lss, e_u8gtr, noV_full, nod_arr, List.length_map, reduceIte, Int.reduceEq, Int.reduceNeg, ne_eq, not_true_eq_false, not_false_eq_true, Bool.not_true, Bool.not_false, Bool.true_or, Bool.or_true, Bool.false_or, Bool.or_false, Bool.and_true, Bool.and_false, Bool.false_and, Bool.not_not, Bool.or_self, List.length_nil, Int.ofNat_zero, Int.cast_ofNat_Int, Int.natCast_zero, beq_self_eq_true, Bool.true_eq_false]; subst hK hQ) | refine Jr.go ?_) | refine sd ?_)
    exact ⟨fzI _, by simp⟩
theorem c102 (s : Sy) (a : At) (p : Pi) (b : Nat) (H H1 : Hp) (ok : Bool) (ws : List Sd) (sm : Sm s) (hm : ∀ p, p ∈ s.pl → 1 ≤ p.m) (h0 : 0 ≤ p.t) (h1 : p.t < s.te.length) (hY : Ys b ws H ok H1) (hz : (a.e = 0 ∨ p.b ≠ 0 ∧ p.b ≤ a.e) → ws = []) (hw : ¬ (a.e = 0 ∨ p.b ≠ 0 ∧ p.b ≤ a.e) → ws = [formW s a p.t a.g a.k (clsOf s.pl a.e)]) :
    Ret Try.prog 102 [syV s, atV a, piV p, .yld b] H (B ok) H1 := by
  have hl := (sm.fo _ (getD_memA s.te default (show p.t.toNat < s.te.length by omega))).1
  refine mk102 _ _ _ _ rfl (Nat.le_of_eq hY.len.symm) hY.hb ?_
  simp only [vc102, real]
  repeat (first | (with_reducible first | refine Ju.go ?_ | (refine Hd.go ?_; intro K Q hK hQ; simp only [nod_agg, List.map_cons, nodL_imm, nodL_arr, nd_no, List.map_nil, e_bxI, okE_agg, lv_cons, List.length_nil, Nat.zero_add, Nat.reduceAdd, all_c, ck_I, ck_arr, all_n, Bool.and_self, and_true, true_and, nod_cptr, e_fac, Nat.reduceLeDiff, List.getD_cons_succ, List.getD_cons_zero, e_ldc, nod_imm, Try.underlying3, e_eql, nod_nod, e_geq, e_neq, e_gT, j_and', e_gF, j_or', j_one, e_cond]; subst hK hQ) | refine Jr.go ?_) | refine sd ?_)
  have ec : (decide (a.e = 0) || (!decide (p.b = 0) && decide (p.b ≤ a.e))) = decide (a.e = 0 ∨ p.b ≠ 0 ∧ p.b ≤ a.e) := by
    rw [Bool.eq_iff_iff]
    simp only [Bool.or_eq_true, Bool.and_eq_true, Bool.not_eq_true', decide_eq_true_eq, decide_eq_false_iff_not]
    try omega
  by_cases hc : a.e = 0 ∨ p.b ≠ 0 ∧ p.b ≤ a.e
  · rw [decide_eq_true hc] at ec
    have hw' := hz hc
    subst hw'
    obtain ⟨rfl, rfl⟩ := hY.none
    repeat (first | (with_reducible first | refine Ju.go ?_ | (refine Hd.go ?_; intro K Q hK hQ; simp only [ec, if_true]; subst hK hQ) | refine Jr.go ?_) | refine sd ?_)
    exact ⟨fzI _, by simp⟩
  · rw [decide_eq_false hc] at ec
    have hw' := hw hc
    subst hw'
    repeat (first | (with_reducible first | refine Ju.go ?_ | (refine Hd.go ?_; intro K Q hK hQ; simp only [ec, Bool.false_eq_true, if_false, List.getD_cons_succ, List.getD_cons_zero, nod_cptr, e_ldcA, lv_cons, List.length_nil, Nat.zero_add, Nat.reduceAdd, true_and, e_fac, Nat.reduceLeDiff, e_ldc, e_facA, dr_0, tk_s, tk_0, nod_agg, List.map_cons, nodL_imm, nodL_arr, nd_no, List.map_nil, nod_imm]; subst hK hQ) | refine Jr.go ?_) | refine sd ?_)
    refine calm_of (fun H => c42 s a.e H sm hm) ?_
    repeat (first | (with_reducible first | refine Ju.go ?_ | (refine Hd.go ?_; intro K Q hK hQ; simp only [nod_imm, e_bd1, okE_I, Nat.zero_add, lv_cons, List.length_nil, Nat.reduceAdd, Nat.reduceLeDiff, cl_imm, spl_0, spl_n, spl_s, e_bd0, true_and, nod_agg, List.map_cons, nodL_imm, nodL_arr, nd_no, List.map_nil, own0_imm, List.getD_cons_zero, nod_nod]; subst hK hQ) | refine Jr.go ?_) | refine sd ?_)
    refine call_ofD (c103 s a p.t a.g a.k _ b H H1 ok h0 h1 hl hY.one) ?_
    repeat (first | (with_reducible first | refine Ju.go ?_ | (refine Hd.go ?_; intro K Q hK hQ; simp only [Try.underlying3, Try.underlying4, Try.underlying5, Try.underlying9, Try.underlying29, Try.underlying57, Try.underlying55, j_one, j_side, j_tl, j_fl, nod_nod, nod_imm, nod_ints, nd_no, nd_own, nd_full, nd_fO, oF_ap, oF_succ, nod_sl, nod_ptr, nod_cptr, nod_fn, nod_junk, nodL_imm, nod_agg, nod_tup, nod2_imm, nod2_agg, cl_imm, cl_ints, cl_agg, e_add, e_sub, e_mul, e_quo, e_rem, e_eql, e_neq, e_lss, e_leq, e_gtr, e_geq, e_beq, e_bne, e_neg, e_not, e_pick, e_cond, e_gT, e_gF, e_len, e_lenA, e_lenS, e_ix, e_ixS, e_ldc, e_ldci, e_fa, rep_cl, rep_I, e_bx, okE_I, okE_B, okE_E8, okE_ints, stV_imm, stV_ints, j_and', j_or', List.getD_cons_zero, List.getD_cons_succ, List.map_cons, List.map_nil, decide_eq_true_eq, Int.toNat_natCast, Nat.mul_one, Nat.zero_add, true_and, and_true, List.length_map, Bool.not_eq_true', decide_eq_false_iff_not, nod_lists, e_lenL, e_ixL, okE_lists, bs1, bs1L, bs2L, e_app, e_appL, e_app0, e_app0L, e_slcLo, e_slcHi, e_slcLH, e_slcHH, e_slcLHH, e_callG, e_callY, e_calmG, e_slS0, e_slSLo, e_slSHi, e_slSLH, e_slSHH, e_slSLHH, e_max2, e_min2, e_max3, e_x20, e_x21, e_x30, e_x31, e_x32, nod2_ints, nod2_lists, rep_fl, bs0, e_nilE, if_true, if_false, cond_true, cond_false, decide_true, decide_false, eq_self, Bool.false_eq_true, false_implies, true_implies, ap_own, ap_full, e_slcLoL, e_slcHiL, e_slcLHL, hp_assoc, hp_cons, hp_nil, hp_len, hp_len_cons, hp_len_nil, lv_cons, lv_nil, vs_0, vs_s, spl_s, spl_0, spl_n, dr_s, dr_0, tk_s, tk_0, e_bxI, e_fac, e_facA, e_ldcA, e_ldcL, e_ldcF, okE_agg, ck_I, ck_B, ck_ints, ck_lists, ck_arr, ck_ptr, ck_cptr, ck_fn, all_c, all_n, stV_agg, stV_lists, stV_arr, stV_ptr, stV_cptr, stV_fn, nodL_ints, nodL_lists, nodL_ptr, nodL_cptr, nodL_fn, nodL_arr0, cl_arr, cl_ptr, cl_cptr, cl_fn, cl_lists, okE_arr, okE_fn, okE_ptr, okE_cptr, e_bd0, e_bd1, e_wr, Nat.reduceAdd, Nat.reduceLeDiff, Nat.reduceEqDiff, Nat.add_zero, Bool.and_self, Bool.true_and, Bool.and_true, e_lc0, e_lA0, e_lM0, e_sc0, e_rc0, e_rA0, e_lI0, e_sI0, e_cI0, e_lc1, e_lA1, e_lM1, e_sc1, e_rc1, e_rA1, e_lI1, e_sI1, e_cI1, e_lc2, e_lA2, e_lM2, e_sc2, e_rc2, e_rA2, e_lI2, e_sI2, e_cI2, e_lc3, e_lA3, e_lM3, e_sc3, e_rc3, e_rA3, e_lI3, e_sI3, e_cI3, e_lc4, e_lA4, e_lM4, e_sc4, e_rc4, e_rA4, e_lI4, e_sI4, e_cI4, e_lc5, e_lA5, e_lM5, e_sc5, e_rc5, e_rA5, e_lI5, e_sI5, e_cI5, own0_arr, own0_ints, own0_lists, own0_imm, own0_ptr, own0_cptr, own0_fn, own0_agg, e_appB, e_appB0, ck_sl, own0_sl, stV_sl, nodL_sl, cl_sl, okE_sl, e_mkM, e_mkI, e_mkIm, e_callB, nod_bfn, nod_ifc, nod_map, nodL_ifc, nodL_bfn, nodL_map, cl_ifc, cl_bfn, ck_ifc, ck_bfn, ck_map, stV_ifc, okE_ifc, okE_bfn, nod_arr, nodL_arr, e_addU, e_mulU, e_shrK, e_shlK, e_andK, e_cv64, e_cv32, e_callEG, e_callEY, e_callEB, e_zr, e_nilSl, e_ncP, e_ncC, e_npnP, e_npeP, e_npnC, e_npeC, e_npnN, e_npeN, e_ixAP, e_ldcP, e_ldcS, e_ldcV, e_ldcT, okE_nilP, ck_nilP, okE_nilI, ck_nilI, okE_str, ck_str, e_tlen, e_tix, e_teq, e_tne, e_tadd, e_tb, e_u8lss, e_u8gtr, noV_full, nod_arr, List.length_map, reduceIte, Int.reduceEq, Int.reduceNeg, ne_eq, not_true_eq_false, not_false_eq_true, Bool.not_true, Bool.not_false, Bool.true_or, Bool.or_true, Bool.false_or, Bool.or_false, Bool.and_true, Bool.and_false, Bool.false_and, Bool.not_not, Bool.or_self, List.length_nil, Int.ofNat_zero, Int.cast_ofNat_Int, Int.natCast_zero, beq_self_eq_true, Bool.true_eq_false]; subst hK hQ) | refine Jr.go ?_) | refine sd ?_)
    exact ⟨fzI _, by simp⟩
end Go.Proofs.Ytgodfjbmblghnaa


set_option linter.unusedVariables false
set_option linter.unusedSimpArgs false
set_option linter.unnecessarySimpa false
set_option maxRecDepth 20000
set_option maxHeartbeats 2000000
namespace Go.Proofs.Ytgodfjbmblghnaa
open Go Go.Ab Go.Proofs
attribute [local congr] g_bin g_nilS g_nilP g_un g_ext g_bx g_fa g_ld g_st g_ix g_ixA g_slc g_mk g_bs g_bd g_nc g_cv g_len g_lenT g_app g_appB g_cpy g_mm g_call g_callG g_calm g_calmG g_range g_res g_pick g_cond g_loop g_Jv g_eqS g_eqP g_fd g_ixT g_ta g_lkp g_upd g_mkM g_appS g_inv g_callE g_callEG g_invE g_zr g_wr
def kdM : List (V × V) := [(I 1, .fn 98 []), (I 2, .fn 99 []), (I 3, .fn 100 []), (I 4, .fn 101 []), (I 5, .fn 102 [])]
def fnK (k : Int) : Nat := if k = 1 then 98 else if k = 2 then 99 else if k = 3 then 100 else if k = 4 then 101 else 102
theorem lv57 : lvT Try.prog 10000 57 = some [.int] := by kernel_rfl
theorem ag57 : agT Try.prog 57 = false := by kernel_rfl
theorem upd_tail (H : Hp) (es : List (V × V)) (n : Int) (v : V) {KH : V → Hp → Prop} (hf : findE false [.int] (I n) es 0 = some none) : aUpd Try.prog 57 (.map H.length) (I n) v (H ++ [.mp es]) KH = KH .junk (H ++ [.mp (es ++ [(I n, v)])]) := by
  have e : (H ++ [Blk.mp es])[H.length]? = some (.mp es) := by rw [tail0]; rfl
  unfold aUpd
  dsimp only
  rw [e]
  dsimp only
  refine propext ⟨fun ⟨ls, r, h1, h2, _, h4⟩ => ?_, fun h => ⟨_, none, lv57, by rw [ag57]; exact hf, by rw [ag57]; simp [kEq, lfE], by rw [set0]; exact h⟩⟩
  obtain rfl : ls = _ := Option.some.inj (h1.symm.trans lv57)
  rw [ag57] at h2
  obtain rfl : r = _ := Option.some.inj (h2.symm.trans hf)
  simp only [] at h4
  rw [set0] at h4
  exact h4
theorem lkp_at {H : Hp} {b : Nat} {k : Int} {z : V} {K : V → Prop} (hH : H[b]? = some (.mp kdM)) (hk : 1 ≤ k ∧ k ≤ 5) : aLkp Try.prog 57 z false (.map b) (I k) H K = K (.fn (fnK k) []) := by
  have hf : ∃ i, findE false [.int] (I k) kdM 0 = some (some (i, .fn (fnK k) [])) := by
    have : k = 1 ∨ k = 2 ∨ k = 3 ∨ k = 4 ∨ k = 5 := by omega
    rcases this with rfl | rfl | rfl | rfl | rfl <;> exact ⟨_, rfl⟩
  obtain ⟨i, hf⟩ := hf
  unfold aLkp
  dsimp only
  rw [hH]
  dsimp only
  refine propext ⟨fun ⟨ls, r, h1, h2, _, h4⟩ => ?_, fun h => ⟨_, _, lv57, by rw [ag57]; exact hf, by rw [ag57]; simp [kEq, lfE], h⟩⟩
  obtain rfl : ls = _ := Option.some.inj (h1.symm.trans lv57)
  rw [ag57] at h2
  obtain rfl : r = _ := Option.some.inj (h2.symm.trans hf)
  exact h4
theorem nod_map (b : Nat) : (V.map b).nod = .map b := rfl
theorem c93 (H : Hp) : Ret Try.prog 93 [] H (.map H.length) (H ++ [.mp kdM]) := by
  refine mk93 rfl (by simp) (.inr fun i blk hi => ?_) ?_
  · by_cases h : i < H.length
    · rw [List.getElem?_append_left h] at hi; exact .inl hi
    · have hl := (List.getElem?_eq_some_iff.1 hi).1
      simp at hl
      obtain rfl : i = H.length := by omega
      rw [tail0] at hi
      cases hi
      right
      intro e he
      simp only [kdM, List.mem_cons, List.not_mem_nil, or_false] at he
      rcases he with rfl | rfl | rfl | rfl | rfl <;> exact ⟨.imm _, .fn _ _ fun c hc => by simp at hc⟩
  · simp only [vc93, real]
    repeat (first | (with_reducible first | refine Ju.go ?_ | (refine Hd.go ?_; intro K Q hK hQ; simp only [Try.underlying3, Try.underlying4, Try.underlying5, Try.underlying9, Try.underlying29, Try.underlying57, Try.underlying55, j_one, j_side, j_tl, j_fl, nod_nod, nod_imm, nod_ints, nd_no, nd_own, nd_full, nd_fO, oF_ap, oF_succ, nod_sl, nod_ptr, nod_cptr, nod_fn, nod_junk, nodL_imm, nod_agg, nod_tup, nod2_imm, nod2_agg, cl_imm, cl_ints, cl_agg, e_add, e_sub, e_mul, e_quo, e_rem, e_eql, e_neq, e_lss, e_leq, e_gtr, e_geq, e_beq, e_bne, e_neg, e_not, e_pick, e_cond, e_gT, e_gF, e_len, e_lenA, e_lenS, e_ix, e_ixS, e_ldc, e_ldci, e_fa, rep_cl, rep_I, e_bx, okE_I, okE_B, okE_E8, okE_ints, stV_imm, stV_ints, j_and', j_or', List.getD_cons_zero, List.getD_cons_succ, List.map_cons, List.map_nil, decide_eq_true_eq, Int.toNat_natCast, Nat.mul_one, Nat.zero_add, true_and, and_true, List.length_map, Bool.not_eq_true', decide_eq_false_iff_not, nod_lists, e_lenL, e_ixL, okE_lists, bs1, bs1L, bs2L, e_app, e_appL, e_app0, e_app0L, e_slcLo, e_slcHi, e_slcLH, e_slcHH, e_slcLHH, e_callG, e_callY, e_calmG, e_slS0, e_slSLo, e_slSHi, e_slSLH, e_slSHH, e_slSLHH, e_max2, e_min2, e_max3, e_x20, e_x21, e_x30, e_x31, e_x32, nod2_ints, nod2_lists, rep_fl, bs0, e_nilE, if_true, if_false, cond_true, cond_false, decide_true, decide_false, eq_self, Bool.false_eq_true, false_implies, true_implies, ap_own, ap_full, e_slcLoL, e_slcHiL, e_slcLHL, hp_assoc, hp_cons, hp_nil, hp_len, hp_len_cons, hp_len_nil, lv_cons, lv_nil, vs_0, vs_s, spl_s, spl_0, spl_n, dr_s, dr_0, tk_s, tk_0, e_bxI, e_fac, e_facA, e_ldcA, e_ldcL, e_ldcF, okE_agg, ck_I, ck_B, ck_ints, ck_lists, ck_arr, ck_ptr, ck_cptr, ck_fn, all_c, all_n, stV_agg, stV_lists, stV_arr, stV_ptr, stV_cptr, stV_fn, nodL_ints, nodL_lists, nodL_ptr, nodL_cptr, nodL_fn, nodL_arr0, cl_arr, cl_ptr, cl_cptr, cl_fn, cl_lists, okE_arr, okE_fn, okE_ptr, okE_cptr, e_bd0, e_bd1, e_wr, Nat.reduceAdd, Nat.reduceLeDiff, Nat.reduceEqDiff, Nat.add_zero, Bool.and_self, Bool.true_and, Bool.and_true, e_lc0, e_lA0, e_lM0, e_sc0, e_rc0, e_rA0, e_lI0, e_sI0, e_cI0, e_lc1, e_lA1, e_lM1, e_sc1, e_rc1, e_rA1, e_lI1, e_sI1, e_cI1, e_lc2, e_lA2, e_lM2, e_sc2, e_rc2, e_rA2, e_lI2, e_sI2, e_cI2, e_lc3, e_lA3, e_lM3, e_sc3, e_rc3, e_rA3, e_lI3, e_sI3, e_cI3, e_lc4, e_lA4, e_lM4, e_sc4, e_rc4, e_rA4, e_lI4, e_sI4, e_cI4, e_lc5, e_lA5, e_lM5, e_sc5, e_rc5, e_rA5, e_lI5, e_sI5, e_cI5, own0_arr, own0_ints, own0_lists, own0_imm, own0_ptr, own0_cptr, own0_fn, own0_agg, e_appB, e_appB0, ck_sl, own0_sl, stV_sl, nodL_sl, cl_sl, okE_sl, e_mkM, e_mkI, e_mkIm, e_callB, nod_bfn, nod_ifc, nod_map, nodL_ifc, nodL_bfn, nodL_map, cl_ifc, cl_bfn, ck_ifc, ck_bfn, ck_map, stV_ifc, okE_ifc, okE_bfn, nod_arr, nodL_arr, e_addU, e_mulU, e_shrK, e_shlK, e_andK, e_cv64, e_cv32, e_callEG, e_callEY, e_callEB, e_zr, e_nilSl, e_ncP, e_ncC, e_npnP, e_npeP, e_npnC, e_npeC, e_npnN, e_npeN, e_ixAP, e_ldcP, e_ldcS, e_ldcV, e_ldcT, okE_nilP, ck_nilP, okE_nilI, ck_nilI, okE_str, ck_str, e_tlen, e_tix, e_teq, e_tne, e_tadd, e_tb, e_u8lss, e_u8gtr, noV_full, nod_arr, List.length_map, reduceIte, Int.reduceEq, Int.reduceNeg, ne_eq, not_true_eq_false, not_false_eq_true, Bool.not_true, Bool.not_false, Bool.true_or, Bool.or_true, Bool.false_or, Bool.or_false, Bool.and_true, Bool.and_false, Bool.false_and, Bool.not_not, Bool.or_self, List.length_nil, Int.ofNat_zero, Int.cast_ofNat_Int, Int.natCast_zero, beq_self_eq_true, Bool.true_eq_false, nod_map, List.nil_append, List.cons_append, upd_tail H [] 1 (.fn 98 []) rfl, upd_tail H [(I 1, .fn 98 [])] 2 (.fn 99 []) rfl, upd_tail H [(I 1, .fn 98 []), (I 2, .fn 99 [])] 3 (.fn 100 []) rfl, upd_tail H [(I 1, .fn 98 []), (I 2, .fn 99 []), (I 3, .fn 100 [])] 4 (.fn 101 []) rfl, upd_tail H [(I 1, .fn 98 []), (I 2, .fn 99 []), (I 3, .fn 100 []), (I 4, .fn 101 [])] 5 (.fn 102 []) rfl]; subst hK hQ) | refine Jr.go ?_) | refine sd ?_)
    exact ⟨.keep _ (.map _ (by simp)), List.take_of_length_le (by simp)⟩
def pcW (s : Sy) (a : At) (p : Pi) (up lo : List Sd) : List Sd :=
  if p.k = 1 then [formW s a p.t a.g a.k (clsOf s.pl a.n)]
  else if p.k = 2 then [formW s a p.t (s.te.getD p.t.toNat default).g a.k (clsOf s.pl a.q)]
  else if p.k = 3 then up
  else if p.k = 4 then (if a.e = 0 then [] else lo)
  else if a.e = 0 ∨ p.b ≠ 0 ∧ p.b ≤ a.e then [] else [formW s a p.t a.g a.k (clsOf s.pl a.e)]
theorem okPi_k {s : Sy} {dv : Bool} {p : Pi} (h : okPi s dv p = true) : (1 ≤ p.k ∧ p.k ≤ 5) ∧ (p.k = 1 ∨ p.k = 2 ∨ p.k = 5 → 0 ≤ p.t ∧ p.t < s.te.length) ∧ (p.k = 3 ∨ p.k = 4 → 0 ≤ p.s ∧ p.s < s.se.length) ∧ (p.k ≠ 1 → dv = true) := by
  unfold okPi at h
  rw [Bool.and_eq_true] at h
  obtain ⟨h0, h⟩ := h
  have hd : p.k ≠ 1 → dv = true := by
    intro hk
    rw [decide_eq_false hk] at h0
    cases dv
    · simp at h0
    · rfl
  split at h
  · rename_i hk
    simp only [Bool.and_eq_true, inB_iff] at h
    exact ⟨by omega, fun _ => by omega, fun h' => by omega, hd⟩
  · split at h
    · rename_i hk
      simp only [Bool.and_eq_true, inB_iff] at h
      exact ⟨by omega, fun h' => by omega, fun _ => by omega, hd⟩
    · split at h
      · rename_i hk
        simp only [Bool.and_eq_true, inB_iff] at h
        exact ⟨by omega, fun _ => by omega, fun h' => by omega, hd⟩
      · cases h
theorem cpc (s : Sy) (a : At) (p : Pi) (dv : Bool) (b : Nat) (H H1 : Hp) (ok : Bool) (up lo : List Sd) (sm : Sm s) (hm : ∀ p, p ∈ s.pl → 1 ≤ p.m) (hp : okPi s dv p = true) (hY : Ys b (pcW s a p up lo) H ok H1) (hd : R64 (a.d + 1))
    (hU : p.k = 3 → Ys b up H ok H1 → Ret Try.prog 84 [syV s, .agg [I a.q, I p.s, I a.c, I a.k], I (a.d + 1), .yld b] H (B ok) H1)
    (hL : p.k = 4 → a.e ≠ 0 → Ys b lo H ok H1 → Ret Try.prog 84 [syV s, .agg [I a.e, I p.s, I a.g, I a.k], I (a.d + 1), .yld b] H (B ok) H1) :
    Ret Try.prog (fnK p.k) [syV s, atV a, piV p, .yld b] H (B ok) H1 := by
  obtain ⟨hk, ht, hs, -⟩ := okPi_k hp
  unfold pcW at hY
  unfold fnK
  by_cases k1 : p.k = 1
  · rw [if_pos k1] at hY ⊢
    obtain ⟨t0, t1⟩ := ht (.inl k1)
    exact c98 s a p b H H1 ok sm hm t0 t1 hY.one
  rw [if_neg k1] at hY ⊢
  by_cases k2 : p.k = 2
  · rw [if_pos k2] at hY ⊢
    obtain ⟨t0, t1⟩ := ht (.inr (.inl k2))
    exact c99 s a p b H H1 ok sm hm t0 t1 hY.one
  rw [if_neg k2] at hY ⊢
  by_cases k3 : p.k = 3
  · rw [if_pos k3] at hY ⊢
    exact c100 s a p b H H1 ok _ hY hd (hU k3 hY)
  rw [if_neg k3] at hY ⊢
  by_cases k4 : p.k = 4
  · rw [if_pos k4] at hY ⊢
    refine c101 s a p b H H1 ok _ hY hd (fun h => ?_) (fun h => ?_)
    · rw [if_pos h] at hY; exact hY.none
    · rw [if_neg h] at hY; exact hL k4 h hY
  rw [if_neg k4] at hY ⊢
  obtain ⟨t0, t1⟩ := ht (.inr (.inr (by omega)))
  exact c102 s a p b H H1 ok _ sm hm t0 t1 hY (fun h => if_pos h) (fun h => if_neg h)
end Go.Proofs.Ytgodfjbmblghnaa


set_option linter.unusedVariables false
set_option linter.unusedSimpArgs false
set_option linter.unnecessarySimpa false
set_option maxRecDepth 20000
set_option maxHeartbeats 2000000
namespace Go.Proofs.Ytgodfjbmblghnaa
open Go Go.Ab Go.Proofs
attribute [local congr] g_bin g_nilS g_nilP g_un g_ext g_bx g_fa g_ld g_st g_ix g_ixA g_slc g_mk g_bs g_bd g_nc g_cv g_len g_lenT g_app g_appB g_cpy g_mm g_call g_callG g_calm g_calmG g_range g_res g_pick g_cond g_loop g_Jv g_eqS g_eqP g_fd g_ixT g_ta g_lkp g_upd g_mkM g_appS g_inv g_callE g_callEG g_invE g_zr g_wr
theorem idxI_get {α : Type} (p : α → Bool) (l : List α) (h : l.any p = true) : ∃ i x, idxI p l = ((i : Nat) : Int) ∧ l[i]? = some x ∧ p x = true := by
  unfold idxI
  cases e : l.findIdx? p with
  | some i =>
    rw [List.findIdx?_eq_some_iff_getElem] at e
    obtain ⟨hi, hp, -⟩ := e
    exact ⟨i, _, rfl, List.getElem?_eq_getElem hi, hp⟩
  | none =>
    rw [List.findIdx?_eq_none_iff] at e
    rw [List.any_eq_true] at h
    obtain ⟨x, hx, hp⟩ := h
    rw [e x hx] at hp; cases hp
theorem ru_ok {l : List Nu} {n : Int} (hl : l ≠ []) (h0 : (l.getD 0 default).b ≤ n) : 0 ≤ ruI l n ∧ ruI l n < l.length ∧ (l.getD (ruI l n).toNat default).b ≤ n := by
  have hp : 0 < l.length := List.length_pos_iff.2 hl
  have ha : l.reverse.any (fun r => decide (r.b ≤ n)) = true := by
    rw [List.any_reverse]
    exact List.any_eq_true.2 ⟨_, getD_memA l default hp, decide_eq_true h0⟩
  obtain ⟨i, x, e, hx, hb⟩ := idxI_get _ _ ha
  have hi : i < l.length := by have := (List.getElem?_eq_some_iff.1 hx).1; rwa [List.length_reverse] at this
  rw [List.getElem?_reverse hi] at hx
  unfold ruI
  rw [e]
  refine ⟨by omega, by omega, ?_⟩
  rw [show ((l.length : Int) - 1 - (i : Nat)).toNat = l.length - 1 - i by omega, List.getD_eq_getElem?_getD, hx]
  exact of_decide_eq_true hb
def atOf (s : Sy) (n t g k d : Int) : At :=
  let l := s.se.getD t.toNat []
  let r := l.getD (ruI l n).toNat default
  { n := n, t := t, g := g, k := k, r := ruI l n, p := 0, d := d, q := if 0 < r.d then n.tdiv r.d else 0, e := if 0 < r.d then n.tmod r.d else 0,
    c := if 0 ≤ idxI (fun p : Pi => decide (p.k = 2)) r.p then (s.te.getD (r.p.getD (idxI (fun p : Pi => decide (p.k = 2)) r.p).toNat default).t.toNat default).g else g }
def ruOf (s : Sy) (n t : Int) : Nu := (s.se.getD t.toNat []).getD (ruI (s.se.getD t.toNat []) n).toNat default
def sayF : Nat → Sy → Int → Int → Int → Int → Int → List Sd
  | 0, _, _, _, _, _, _ => []
  | f + 1, s, n, t, g, k, d =>
    let a := atOf s n t g k d
    (List.range (ruOf s n t).p.length).flatMap fun i =>
      let p := (ruOf s n t).p.getD i default
      pcW s { a with p := i } p (sayF f s a.q p.s a.c a.k (a.d + 1)) (sayF f s a.e p.s a.g a.k (a.d + 1))
theorem c92 (p : Pi) (H : Hp) : Ret Try.prog 92 [piV p] H (B (decide (p.k = 2))) H := by
  refine mk92 _ rfl (Nat.le_refl _) (.inl rfl) ?_
  simp only [vc92, real]
  repeat (first | (with_reducible first | refine Ju.go ?_ | (refine Hd.go ?_; intro K Q hK hQ; simp only [nod_agg, List.map_cons, nodL_imm, List.map_nil, e_bxI, okE_agg, lv_cons, List.length_nil, Nat.zero_add, Nat.reduceAdd, all_c, ck_I, all_n, Bool.and_self, and_true, true_and, nod_cptr, e_fac, Nat.reduceLeDiff, List.getD_cons_zero, e_ldc, nod_imm, Try.underlying57, e_eql]; subst hK hQ) | refine Jr.go ?_) | refine sd ?_)
  exact end1 (fzI _)
theorem c91 (l : List Pi) (H : Hp) (hl : l.length ≤ 800) : Ret Try.prog 91 [.arr (l.map piV) .no, .fn 92 []] H (I (idxI (fun p : Pi => decide (p.k = 2)) l)) H := by
  refine mk91 _ _ rfl (Nat.le_refl _) (.inl rfl) ?_
  simp only [vc91, real]
  repeat (first | (with_reducible first | refine Ju.go ?_ | (refine Hd.go ?_; intro K Q hK hQ; simp only [nod_arr, nd_no, e_lenA, List.length_map]; subst hK hQ) | refine Jr.go ?_) | refine sd ?_)
  refine loop_of (fun i : Nat => i ≤ l.length ∧ ∀ (j : Nat) (y : Pi), j < i → l[j]? = some y → decide (y.k = 2) = false) (fun i => [.arr (l.map piV) .no, .fn 92 [], I l.length, I i]) (fun _ => H) (fun i => l.length - i) 0 ⟨Nat.zero_le _, fun j y h => absurd h (Nat.not_lt_zero _)⟩ rfl rfl ?_
  intro i ⟨hi, hp⟩
  repeat (first | (with_reducible first | refine Ju.go ?_ | (refine Hd.go ?_; intro K Q hK hQ; simp only [List.getD_cons_succ, List.getD_cons_zero, nod_imm, Try.underlying3, e_lss, e_cond, decide_eq_true_eq]; subst hK hQ) | refine Jr.go ?_) | refine sd ?_)
  by_cases hlt : i < l.length
  · have d : (i : Int) < l.length := by omega
    have hg := getD_someA l default hlt
    repeat (first | (with_reducible first | refine Ju.go ?_ | (refine Hd.go ?_; intro K Q hK hQ; simp only [d, if_true, List.getD_cons_zero, nod_arr, nd_no, List.getD_cons_succ, nod_imm, ix_pi, Int.toNat_natCast, true_and, nod_cptr, e_ldcA, lv_cons, List.length_nil, Nat.zero_add, Nat.reduceAdd, nod_fn, nod_agg, List.map_cons, nodL_imm, List.map_nil, e_callEG]; subst hK hQ) | refine Jr.go ?_) | refine sd ?_)
    generalize l.getD i default = r at *
    refine call_of (c92 r _) ?_
    by_cases hb : r.k = 2
    · rw [decide_eq_true hb]
      repeat (first | (with_reducible first | refine Ju.go ?_ | (refine Hd.go ?_; intro K Q hK hQ; simp only [nod_imm, e_cond, if_true]; subst hK hQ) | refine Jr.go ?_) | refine sd ?_)
      rw [idxI_at _ l i _ hg (decide_eq_true hb) hp]
      exact end1 (fzI _)
    · rw [decide_eq_false hb]
      repeat (first | (with_reducible first | refine Ju.go ?_ | (refine Hd.go ?_; intro K Q hK hQ; simp only [nod_imm, e_cond, Bool.false_eq_true, if_false, List.getD_cons_succ, List.getD_cons_zero, Try.underlying3, e_add]; subst hK hQ) | refine Jr.go ?_) | refine sd ?_)
      refine ⟨i + 1, ⟨by omega, fun j y hj hy => ?_⟩, rfl, rfl, by omega⟩
      by_cases e : j = i
      · subst e
        rw [hg] at hy
        cases hy
        exact decide_eq_false hb
      · exact hp j y (by omega) hy
  · have d : ¬ (i : Int) < l.length := by omega
    repeat (first | (with_reducible first | refine Ju.go ?_ | (refine Hd.go ?_; intro K Q hK hQ; simp only [d, if_false]; subst hK hQ) | refine Jr.go ?_) | refine sd ?_)
    rw [idxI_none _ l (fun j y hy => hp j y (by have := (List.getElem?_eq_some_iff.1 hy).1; omega) hy)]
    exact end1 (fzI _)
structure RuOk (s : Sy) (n t : Int) : Prop where
  ne : s.se.getD t.toNat [] ≠ []
  len : (s.se.getD t.toNat []).length ≤ 800
  i0 : 0 ≤ ruI (s.se.getD t.toNat []) n
  i1 : ruI (s.se.getD t.toNat []) n < (s.se.getD t.toNat []).length
  b : (ruOf s n t).b ≤ n
  d : (ruOf s n t).d = 0 ∨ 2 ≤ (ruOf s n t).d ∧ (ruOf s n t).d ≤ (ruOf s n t).b
  p : ∀ p, p ∈ (ruOf s n t).p → okPi s (!decide ((ruOf s n t).d = 0)) p = true
  pl : (ruOf s n t).p.length ≤ 10
theorem ruOk {s : Sy} {n t : Int} (sm : Sm s) (ok : okSy s = true) (hn : 0 ≤ n) (h0 : 0 ≤ t) (h1 : t < s.se.length) : RuOk s n t := by
  have hm := getD_memA s.se [] (show t.toNat < s.se.length by omega)
  have hs := List.all_eq_true.1 (okSy.parts ok).2.2.2.2 _ hm
  unfold okSe at hs
  simp only [Bool.and_eq_true, inB_iff, decide_eq_true_eq] at hs
  obtain ⟨⟨⟨⟨l1, l2⟩, b0⟩, -⟩, ha⟩ := hs
  have ne : s.se.getD t.toNat [] ≠ [] := by intro e; rw [e] at l1; simp at l1
  have hr := ru_ok (n := n) ne (by rw [b0]; exact hn)
  have ha := List.all_eq_true.1 ha (ruI (s.se.getD t.toNat []) n).toNat (List.mem_range.2 (by omega))
  unfold okRi at ha
  rw [Bool.and_eq_true] at ha
  have ha := ha.2
  have e : (s.se.getD t.toNat []).getD (ruI (s.se.getD t.toNat []) n).toNat default = ruOf s n t := rfl
  rw [e] at ha hr
  unfold okR at ha
  simp only [Bool.and_eq_true, inB_iff] at ha
  obtain ⟨⟨⟨⟨⟨a1, a2⟩, a3⟩, -⟩, -⟩, -⟩ := ha
  refine ⟨ne, by omega, hr.1, hr.2.1, hr.2.2, ?_, List.all_eq_true.1 a3, by omega⟩
  by_cases hz : (ruOf s n t).d = 0
  · exact .inl hz
  · right
    rw [decide_eq_false hz] at a1
    have : inB (ruOf s n t).d 2 (ruOf s n t).b = true := by
      cases h : inB (ruOf s n t).d 2 (ruOf s n t).b
      · rw [h] at a1; simp at a1
      · rfl
    rw [inB_iff] at this
    exact this
end Go.Proofs.Ytgodfjbmblghnaa


set_option linter.unusedVariables false
set_option linter.unusedSimpArgs false
set_option linter.unnecessarySimpa false
set_option maxRecDepth 20000
set_option maxHeartbeats 2000000
namespace Go.Proofs.Ytgodfjbmblghnaa
open Go Go.Ab Go.Proofs
attribute [local congr] g_bin g_nilS g_nilP g_un g_ext g_bx g_fa g_ld g_st g_ix g_ixA g_slc g_mk g_bs g_bd g_nc g_cv g_len g_lenT g_app g_appB g_cpy g_mm g_call g_callG g_calm g_calmG g_range g_res g_pick g_cond g_loop g_Jv g_eqS g_eqP g_fd g_ixT g_ta g_lkp g_upd g_mkM g_appS g_inv g_callE g_callEG g_invE g_zr g_wr
theorem hpX (Hi X L : Hp) (c1 c2 c : Blk) : (Hi ++ c1 :: c2 :: (X ++ c :: L))[Hi.length + (X.length + 1 + 1)]? = some c := by
  simp only [hp_getk, hp_gs, hp_get0, hp_g0]
theorem hpXm (Hi X : Hp) (c1 c2 p c : Blk) : (Hi ++ c1 :: c2 :: (X ++ [p, c]))[Hi.length + (X.length + 1 + 1 + 1)]? = some c := by
  simp only [hp_getk, hp_gs, hp_g0]
theorem hpXs (Hi X L : Hp) (c1 c2 c c' : Blk) : (Hi ++ c1 :: c2 :: (X ++ c :: L)).set (Hi.length + (X.length + 1 + 1)) c' = Hi ++ c1 :: c2 :: (X ++ c' :: L) := by
  simp only [hp_setk, hp_ss, hp_set0, hp_s0]
theorem stX {Hi X L : Hp} {c1 c2 : Blk} {s o : Nat} {x : V} {cs : List V} {KH : V → Hp → Prop} : aSt s (.ptr (Hi.length + (X.length + 1 + 1)) o) x (Hi ++ c1 :: c2 :: (X ++ .cells cs :: L)) KH = (o + s ≤ cs.length ∧ okE s (stV x) ∧ KH .junk (Hi ++ c1 :: c2 :: (X ++ .cells (spl cs o (stV x).cl) :: L))) := by
  rw [st_at (hpX _ _ _ _ _ _), hpXs]
theorem ldX {Hi X L : Hp} {c1 c2 : Blk} {s o : Nat} {cs : List V} {KH : V → Hp → Prop} : aLd s false false (.ptr (Hi.length + (X.length + 1 + 1)) o) (Hi ++ c1 :: c2 :: (X ++ .cells cs :: L)) KH = (o + s ≤ cs.length ∧ KH (cs.getD o .junk).nod (Hi ++ c1 :: c2 :: (X ++ .cells cs :: L))) := ld_at (hpX _ _ _ _ _ _)
theorem ldXA {Hi X L : Hp} {c1 c2 : Blk} {s o : Nat} {cs : List V} {KH : V → Hp → Prop} : aLd s true false (.ptr (Hi.length + (X.length + 1 + 1)) o) (Hi ++ c1 :: c2 :: (X ++ .cells cs :: L)) KH = (o + s ≤ cs.length ∧ KH (V.agg ((cs.drop o).take s)).nod (Hi ++ c1 :: c2 :: (X ++ .cells cs :: L))) := ldA_at (hpX _ _ _ _ _ _)
theorem idxI_pos (l : List Pi) (h : 0 ≤ idxI (fun p : Pi => decide (p.k = 2)) l) : l.getD (idxI (fun p : Pi => decide (p.k = 2)) l).toNat default ∈ l ∧ (l.getD (idxI (fun p : Pi => decide (p.k = 2)) l).toNat default).k = 2 := by
  have ha := idxI_any (fun p : Pi => decide (p.k = 2)) l
  rw [decide_eq_true h] at ha
  obtain ⟨i, x, e, hx, hp⟩ := idxI_get _ _ ha.symm
  rw [e, Int.toNat_natCast]
  have : l.getD i default = x := by rw [List.getD_eq_getElem?_getD, hx]; rfl
  rw [this]
  exact ⟨List.mem_of_getElem? hx, of_decide_eq_true hp⟩
theorem c84 (s : Sy) (sm : Sm s) (hok : okSy s = true) : ∀ (f : Nat) (n t g k d : Int) (b : Nat) (H H1 : Hp) (o : Bool), n.toNat < f → 0 ≤ n → n ≤ 1000000000000 → 0 ≤ t → t < s.se.length → 0 ≤ d → d + n ≤ 10000000000000 →
    Ys b (sayF f s n t g k d) H o H1 → Ret Try.prog 84 [syV s, .agg [I n, I t, I g, I k], I d, .yld b] H (B o) H1 := by
  have hm := okSy.mod hok
  have h1 := sm.te
  intro f
  induction f with
  | zero => intro n t g k d b H H1 o hf; omega
  | succ f ih =>
    intro n t g k d b H H1 o hf hn hn2 ht0 ht1 hd0 hd1 hY
    have ru := ruOk sm hok hn ht0 ht1
    have a1 := ru.i0
    have a2 := ru.i1
    have a3 := ru.b
    have a4 := ru.d
    have a5 := ru.pl
    have ec : (atOf s n t g k d).c = if 0 ≤ idxI (fun p : Pi => decide (p.k = 2)) (ruOf s n t).p then (s.te.getD ((ruOf s n t).p.getD (idxI (fun p : Pi => decide (p.k = 2)) (ruOf s n t).p).toNat default).t.toNat default).g else g := rfl
    refine mk84 _ _ _ _ rfl (Nat.le_of_eq hY.len.symm) hY.hb ?_
    simp only [vc84, real]
    repeat (first | (with_reducible first | refine Ju.go ?_ | (refine Hd.go ?_; intro K Q hK hQ; simp only [nod_agg, List.map_cons, nodL_imm, nodL_arr, nd_no, List.map_nil, e_bxI, okE_agg, lv_cons, List.length_nil, Nat.zero_add, Nat.reduceAdd, all_c, ck_I, ck_arr, all_n, Bool.and_self, and_true, true_and, nod_cptr, e_ldcA, e_fac, Nat.reduceLeDiff, List.getD_cons_succ, List.getD_cons_zero, e_ldc, nod_imm]; subst hK hQ) | refine Jr.go ?_) | refine sd ?_)
    refine calm_of (fun H => c77 s t n H ht0 ht1 ru.ne ru.len) ?_
    have eR : (s.se.getD t.toNat []).getD (ruI (s.se.getD t.toNat []) n).toNat default = ruOf s n t := rfl
    repeat (first | (with_reducible first | refine Ju.go ?_ | (refine Hd.go ?_; intro K Q hK hQ; simp only [nod_cptr, e_fac, Nat.reduceAdd, lv_cons, List.length_nil, Nat.zero_add, Nat.reduceLeDiff, List.getD_cons_succ, List.getD_cons_zero, true_and, e_ldc, nod_agg, List.map_cons, nodL_imm, List.map_nil, nod_imm, e_bd1, okE_agg, all_c, ck_I, all_n, Bool.and_self, and_true, cl_agg, spl_0, spl_n, okE_I, cl_imm, spl_s, e_bd0, e_bx, nod_ptr, e_sc0, stV_agg, e_facA, dr_0, tk_s, tk_0, e_ldcV, nod_arr, nd_no, ix_se, ht0, ht1, e_fa, e_lc0, ix_nu, a1, a2, eR, e_ldcA, ck_arr, hp_len, hp_len_cons, hp_assoc, hp_cons, hp_nil, e_sc1, nodL_arr, e_lc1, Try.underlying3, e_gtr, e_cond, decide_eq_true_eq]; subst hK hQ) | refine Jr.go ?_) | refine sd ?_)
    have eat : atOf s n t g k d = { n := n, t := t, g := g, k := k, r := ruI (s.se.getD t.toNat []) n, p := 0, d := d, q := if 0 < (ruOf s n t).d then n.tdiv (ruOf s n t).d else 0, e := if 0 < (ruOf s n t).d then n.tmod (ruOf s n t).d else 0, c := (atOf s n t g k d).c } := rfl
    have hpk := ru.p
    have hY' : Ys b ((List.range (ruOf s n t).p.length).flatMap fun i : Nat =>
      pcW s { atOf s n t g k d with p := (i : Int) } ((ruOf s n t).p.getD i default) (sayF f s (atOf s n t g k d).q ((ruOf s n t).p.getD i default).s (atOf s n t g k d).c (atOf s n t g k d).k ((atOf s n t g k d).d + 1)) (sayF f s (atOf s n t g k d).e ((ruOf s n t).p.getD i default).s (atOf s n t g k d).g (atOf s n t g k d).k ((atOf s n t g k d).d + 1))) H o H1 := hY
    have hk2 : ∀ p, p ∈ (ruOf s n t).p → p.k = 2 → 0 ≤ p.t ∧ p.t < s.te.length := fun p hp hk => (okPi_k (hpk p hp)).2.1 (.inr (.inl hk))
    have hq : (ruOf s n t).d ≠ 0 → 0 ≤ n.tdiv (ruOf s n t).d ∧ n.tdiv (ruOf s n t).d < n ∧ 0 ≤ n.tmod (ruOf s n t).d ∧ n.tmod (ruOf s n t).d < n := fun h => by
      have h2 : 2 ≤ (ruOf s n t).d := by omega
      have h3 : (ruOf s n t).d ≤ n := by omega
      rw [Int.tdiv_eq_ediv_of_nonneg hn, Int.tmod_eq_emod_of_nonneg hn]
      refine ⟨Int.ediv_nonneg hn (by omega), ?_, Int.emod_nonneg _ (by omega), ?_⟩
      · exact Int.ediv_lt_self_of_pos_of_ne_one (by omega) (by omega)
      · have := Int.emod_lt_of_pos n (show 0 < (ruOf s n t).d by omega)
        omega
    clear hY eR ru
    generalize hat : atOf s n t g k d = at0 at *
    generalize hri : ruI (s.se.getD t.toNat []) n = ri at *
    generalize ruOf s n t = r at *
    generalize hRR : Rn _ = R
    have key : ∀ q e : Int, q = (if 0 < r.d then n.tdiv r.d else 0) → e = (if 0 < r.d then n.tmod r.d else 0) → R [.yld b, .cptr (syV s), .ptr H.length 0, .ptr (H.length + 1) 0] (H ++ [.cells [I n, I t, I g, I k, I ri, I 0, I d, I q, I e, I g], .cells [I r.b, I r.d, .arr (r.p.map piV) .no]]) := by
      intro q e eq ee
      rw [← hRR]
      refine rn_go ?_
      rw [← eq, ← ee] at eat
      repeat (first | (with_reducible first | refine Ju.go ?_ | (refine Hd.go ?_; intro K Q hK hQ; simp only [List.getD_cons_succ, List.getD_cons_zero, nod_ptr, e_fa, Nat.zero_add, e_lc1, Nat.reduceAdd, lv_cons, List.length_nil, Nat.reduceLeDiff, nod_arr, nd_no, true_and]; subst hK hQ) | refine Jr.go ?_) | refine sd ?_)
      refine call_of (c91 _ _ (by omega)) ?_
      generalize hRQ : Rn _ = R2
      have key2 : ∀ c : Int, c = at0.c → R2 [.yld b, .cptr (syV s), .ptr H.length 0, .ptr (H.length + 1) 0] (H ++ [.cells [I n, I t, I g, I k, I ri, I 0, I d, I q, I e, I c], .cells [I r.b, I r.d, .arr (r.p.map piV) .no]]) := by
        intro c hc
        rw [← hRQ]
        refine rn_go ?_
        repeat (first | (with_reducible first | refine Ju.go ?_ | (refine Hd.go ?_; intro K Q hK hQ; simp only [List.getD_cons_succ, List.getD_cons_zero, nod_ptr, e_fa, Nat.zero_add, e_lc1, Nat.reduceAdd, lv_cons, List.length_nil, Nat.reduceLeDiff, nod_arr, nd_no, true_and, e_lenA, List.length_map]; subst hK hQ) | refine Jr.go ?_) | refine sd ?_)
        rw [← hc] at eat
        subst eat
        clear hRR hRQ hat hri hc ec
        clear R R2
        dsimp only at hY'
        generalize hpcs : (fun i : Nat => pcW s _ _ _ _) = pcs at hY'
        have hpc : ∀ i : Nat, pcs i = pcW s { n := n, t := t, g := g, k := k, r := ri, p := (i : Int), d := d, q := q, e := e, c := c } (r.p.getD i default) (sayF f s q (r.p.getD i default).s c k (d + 1)) (sayF f s e (r.p.getD i default).s g k (d + 1)) := fun i => by rw [← hpcs]
        clear hpcs
        refine loop_of (fun z : Nat × Hp × Hp × Int => z.1 ≤ r.p.length ∧ z.2.1.length = H.length ∧ Ys b (((List.range r.p.length).drop z.1).flatMap pcs) z.2.1 o H1) (fun z => [.yld b, .cptr (syV s), .ptr z.2.1.length 0, .arr (r.p.map piV) .no, I r.p.length, I z.1]) (fun z => z.2.1 ++ (.cells [I n, I t, I g, I k, I ri, I z.2.2.2, I d, I q, I e, I c] :: .cells [I r.b, I r.d, .arr (r.p.map piV) .no] :: z.2.2.1)) (fun z => r.p.length - z.1) (0, H, [], 0) ⟨Nat.zero_le _, rfl, hY'⟩ rfl rfl ?_
        clear hY'
        intro ⟨i, Hi, X, pv⟩ ⟨hi, hlen, hYs⟩
        dsimp only at hi hlen hYs ⊢
        by_cases hlt : i < r.p.length
        · have di : (i : Int) < r.p.length := by omega
          have hdrop : ((List.range r.p.length).drop i).flatMap pcs = pcs i ++ ((List.range r.p.length).drop (i + 1)).flatMap pcs := by
            rw [List.drop_eq_getElem_cons (by simpa using hlt), List.flatMap_cons, List.getElem_range]
          have hpm := hpk _ (getD_memA r.p default hlt)
          have hpi := hpc i
          rw [hdrop] at hYs
          obtain ⟨o', H2, y1, hcont⟩ : ∃ o' H2, Ys b (pcs i) Hi o' H2 ∧ ((o' = true ∧ Ys b (((List.range r.p.length).drop (i + 1)).flatMap pcs) H2 o H1) ∨ (o' = false ∧ o = false ∧ H2 = H1)) := by
            rcases hYs.split with ⟨H2, y1, y2⟩ | ⟨y1, y2⟩
            · exact ⟨true, H2, y1, .inl ⟨rfl, y2⟩⟩
            · exact ⟨false, H1, y1, .inr ⟨rfl, y2, rfl⟩⟩
          have hl2 := y1.len
          rw [hpi] at y1
          repeat (first | (with_reducible first | refine Ju.go ?_ | (refine Hd.go ?_; intro K Q hK hQ; simp only [List.getD_cons_succ, List.getD_cons_zero, nod_imm, Try.underlying3, e_lss, di, decide_true, e_cond, if_true, nod_arr, nd_no, ix_pi, Int.toNat_natCast, true_and, nod_cptr, e_ldcA, lv_cons, List.length_nil, Nat.zero_add, Nat.reduceAdd, e_bx, okE_agg, all_c, ck_I, all_n, Bool.and_self, and_true, hp_len, hp_len_cons, cl_agg, hp_assoc, hp_cons, nod_ptr, stX, Nat.reduceLeDiff, stV_agg, List.map_cons, nodL_imm, List.map_nil, spl_0, spl_n, e_fa, e_sc0, stV_imm, okE_I, cl_imm, spl_s]; subst hK hQ) | refine Jr.go ?_) | refine sd ?_)
          generalize r.p.getD i default = p at *
          have hkk := (okPi_k hpm).1
          generalize hR3 : Rn _ = R3
          have hC : ∀ L, Ret Try.prog (fnK p.k) [syV s, atV { n := n, t := t, g := g, k := k, r := ri, p := (i : Int), d := d, q := q, e := e, c := c }, piV p, .yld b] (Hi ++ L) (B o') (H2 ++ L) := by
            intro L
            refine cpc s _ p _ b _ _ o' _ _ sm hm hpm (y1.ext L) ?_ ?_ ?_
            · show R64 (d + 1)
              unfold R64; omega
            · intro hk hys
              have hz : r.d ≠ 0 := fun h => by have := (okPi_k hpm).2.2.2 (by omega); rw [h] at this; cases this
              have hqq := hq hz
              rw [if_pos (show 0 < r.d by omega)] at eq
              obtain ⟨s0, s1⟩ := (okPi_k hpm).2.2.1 (.inl hk)
              exact ih q p.s c k (d + 1) b _ _ o' (by omega) (by omega) (by omega) s0 s1 (by omega) (by omega) hys
            · intro hk he hys
              have hz : r.d ≠ 0 := fun h => by have := (okPi_k hpm).2.2.2 (by omega); rw [h] at this; cases this
              have hqq := hq hz
              rw [if_pos (show 0 < r.d by omega)] at ee
              obtain ⟨s0, s1⟩ := (okPi_k hpm).2.2.1 (.inr hk)
              exact ih e p.s g k (d + 1) b _ _ o' (by omega) (by omega) (by omega) s0 s1 (by omega) (by omega) hys
          have k3 : R3 [.yld b, .cptr (syV s), .ptr Hi.length 0, .arr (r.p.map piV) .no, I r.p.length, I i, B (!o')] (H2 ++ (.cells [I n, I t, I g, I k, I ri, I i, I d, I q, I e, I c] :: .cells [I r.b, I r.d, .arr (r.p.map piV) .no] :: (X ++ [.cells [I p.k, I p.t, I p.s, I p.b], .mp kdM]))) := by
            rw [← hR3]
            refine rn_go ?_
            rcases hcont with ⟨rfl, y2⟩ | ⟨rfl, rfl, rfl⟩
            · repeat (first | (with_reducible first | refine Ju.go ?_ | (refine Hd.go ?_; intro K Q hK hQ; simp only [Bool.not_true, List.getD_cons_succ, List.getD_cons_zero, nod_imm, e_cond, Bool.false_eq_true, if_false, Try.underlying3, e_add]; subst hK hQ) | refine Jr.go ?_) | refine sd ?_)
              exact ⟨(i + 1, H2, X ++ [.cells [I p.k, I p.t, I p.s, I p.b], .mp kdM], i), ⟨by dsimp only; omega, by dsimp only; rw [hl2, hlen], y2⟩, by dsimp only; rw [hl2]; rfl, rfl, by dsimp only; omega⟩
            · repeat (first | (with_reducible first | refine Ju.go ?_ | (refine Hd.go ?_; intro K Q hK hQ; simp only [Bool.not_false, List.getD_cons_succ, List.getD_cons_zero, nod_imm, e_cond, if_true]; subst hK hQ) | refine Jr.go ?_) | refine sd ?_)
              exact end1A (fzI _)
          refine ⟨?_, ?_, ?_, ?_, ?_, ?_, ?_, ?_, ?_, ?_, ?_, ?_, ?_, ?_, ?_, ?_⟩
          all_goals repeat (first | (with_reducible first | refine Ju.go ?_ | (refine Hd.go ?_; intro K Q hK hQ; simp only [nod_ptr, e_fa, Nat.add_zero, ldX, Nat.zero_add, lv_cons, List.length_nil, Nat.reduceAdd, Nat.reduceLeDiff, List.getD_cons_zero, nod_imm, true_and, List.getD_cons_succ, nod_cptr, e_ldcA, e_lA0, dr_0, tk_s, tk_0, nod_agg, List.map_cons, nodL_imm, List.map_nil, ldXA]; subst hK hQ) | refine Jr.go ?_) | refine sd ?_)
          all_goals refine call_ofD (c93 _) ?_
          all_goals repeat (first | (with_reducible first | refine Ju.go ?_ | (refine Hd.go ?_; intro K Q hK hQ; simp only [hp_len, hp_len_cons, List.length_nil, Nat.zero_add, nod_map, nod_imm, hp_assoc, hp_cons, hp_nil, lkp_at (hpXm _ _ _ _ _ _) hkk, nod_fn, nod_agg, List.map_cons, nodL_imm, nodL_arr, nd_no, List.map_nil, List.getD_cons_zero, nod_nod, e_callG, nod_ptr, ldX, lv_cons, Nat.reduceAdd, Nat.reduceLeDiff, true_and, List.getD_cons_succ, nod_cptr, e_ldcA, e_lA0, dr_0, tk_s, tk_0, ldXA, e_fa, Nat.add_zero]; subst hK hQ) | refine Jr.go ?_) | refine sd ?_)
          all_goals refine call_ofD (hC _) ?_
          all_goals repeat (first | (with_reducible first | refine Ju.go ?_ | (refine Hd.go ?_; intro K Q hK hQ; simp only [nod_imm, e_not]; subst hK hQ) | refine Jr.go ?_) | refine sd ?_)
          all_goals exact k3
        · have di : ¬ (i : Int) < r.p.length := by omega
          rw [List.drop_of_length_le (by rw [List.length_range]; omega)] at hYs
          obtain ⟨rfl, rfl⟩ := hYs.none
          repeat (first | (with_reducible first | refine Ju.go ?_ | (refine Hd.go ?_; intro K Q hK hQ; simp only [List.getD_cons_succ, List.getD_cons_zero, nod_imm, Try.underlying3, e_lss, di, decide_false, e_cond, Bool.false_eq_true, if_false]; subst hK hQ) | refine Jr.go ?_) | refine sd ?_)
          exact end1A (fzI _)
      by_cases hc2 : 0 ≤ idxI (fun p : Pi => decide (p.k = 2)) r.p
      · obtain ⟨m1, m2⟩ := idxI_pos r.p hc2
        obtain ⟨m3, m4⟩ := hk2 _ m1 m2
        have m5 := (idxI_bd (fun p : Pi => decide (p.k = 2)) r.p).2
        repeat (first | (with_reducible first | refine Ju.go ?_ | (refine Hd.go ?_; intro K Q hK hQ; simp only [nod_imm, Try.underlying3, e_geq, hc2, decide_true, e_cond, if_true, List.getD_cons_succ, List.getD_cons_zero, nod_cptr, e_facA, Nat.zero_add, lv_cons, List.length_nil, Nat.reduceAdd, Nat.reduceLeDiff, dr_0, tk_s, tk_0, true_and, e_fac, e_ldcV, nod_ptr, e_fa, e_lc1, nod_arr, nd_no, ix_pi, m5, e_ldc, ix_te, m3, m4, e_sc0, stV_imm, okE_I, cl_imm, spl_s, spl_0, spl_n]; subst hK hQ) | refine Jr.go ?_) | refine sd ?_)
        exact key2 _ (by rw [ec, if_pos hc2])
      · repeat (first | (with_reducible first | refine Ju.go ?_ | (refine Hd.go ?_; intro K Q hK hQ; simp only [nod_imm, Try.underlying3, e_geq, hc2, decide_false, e_cond, Bool.false_eq_true, if_false]; subst hK hQ) | refine Jr.go ?_) | refine sd ?_)
        exact key2 _ (by rw [ec, if_neg hc2])
    by_cases hd : 0 < r.d
    · have hz : r.d ≠ 0 := by omega
      have hq' := hq hz
      have r1 : R64 (n.tdiv r.d) := by unfold R64; omega
      repeat (first | (with_reducible first | refine Ju.go ?_ | (refine Hd.go ?_; intro K Q hK hQ; simp only [hd, if_true]; subst hK hQ) | refine Jr.go ?_) | refine sd ?_)
      refine ⟨?_, ?_, ?_, ?_⟩
      all_goals repeat (first | (with_reducible first | refine Ju.go ?_ | (refine Hd.go ?_; intro K Q hK hQ; simp only [List.getD_cons_succ, List.getD_cons_zero, nod_cptr, e_fac, Nat.zero_add, lv_cons, List.length_nil, Nat.reduceAdd, Nat.reduceLeDiff, true_and, e_ldc, nod_ptr, e_fa, e_lc1, nod_imm, Try.underlying3, e_quo, ne_eq, hz, not_false_eq_true, r1, e_sc0, stV_imm, okE_I, cl_imm, spl_s, spl_0, spl_n, e_rem]; subst hK hQ) | refine Jr.go ?_) | refine sd ?_)
      all_goals exact key _ _ (by rw [if_pos hd]) (by rw [if_pos hd])
    · repeat (first | (with_reducible first | refine Ju.go ?_ | (refine Hd.go ?_; intro K Q hK hQ; simp only [hd, if_false]; subst hK hQ) | refine Jr.go ?_) | refine sd ?_)
      exact key 0 0 (by rw [if_neg hd]) (by rw [if_neg hd])
end Go.Proofs.Ytgodfjbmblghnaa


set_option linter.unusedVariables false
set_option linter.unusedSimpArgs false
set_option linter.unnecessarySimpa false
set_option maxRecDepth 20000
set_option maxHeartbeats 2000000
namespace Go.Proofs.Ytgodfjbmblghnaa
open Go Go.Ab Go.Proofs
attribute [local congr] g_bin g_nilS g_nilP g_un g_ext g_bx g_fa g_ld g_st g_ix g_ixA g_slc g_mk g_bs g_bd g_nc g_cv g_len g_lenT g_app g_appB g_cpy g_mm g_call g_callG g_calm g_calmG g_range g_res g_pick g_cond g_loop g_Jv g_eqS g_eqP g_fd g_ixT g_ta g_lkp g_upd g_mkM g_appS g_inv g_callE g_callEG g_invE g_zr g_wr
theorem len_pcs (l : List Pi) (pcs : Nat → List Sd) (U L : Nat) (h : ∀ i, i < l.length → (pcs i).length ≤ 1 + (if (l.getD i default).k = 3 then U else 0) + (if (l.getD i default).k = 4 then L else 0)) :
    ∀ m, m ≤ l.length → ((((List.range m).flatMap pcs).length : Nat) : Int) ≤ m + cntK 3 (l.take m) * U + cntK 4 (l.take m) * L := by
  intro m
  induction m with
  | zero => intro _; simp [cntK]
  | succ m ih =>
    intro hm
    have h1 := ih (by omega)
    have h2 := h m (by omega)
    rw [List.range_succ, List.flatMap_append, List.length_append, take_snocA l default (by omega), cntK_snoc, cntK_snoc, Int.add_mul, Int.add_mul]
    have e : (List.flatMap pcs [m]).length = (pcs m).length := by simp
    rw [e]
    generalize l.getD m default = p at *
    by_cases k3 : p.k = 3
    · rw [if_pos k3, if_neg (show ¬ p.k = 4 by omega)] at h2
      rw [if_pos k3, if_neg (show ¬ p.k = 4 by omega)]
      rw [Int.one_mul, Int.zero_mul]
      push_cast
      omega
    · by_cases k4 : p.k = 4
      · rw [if_neg k3, if_pos k4] at h2
        rw [if_neg k3, if_pos k4]
        rw [Int.one_mul, Int.zero_mul]
        push_cast
        omega
      · rw [if_neg k3, if_neg k4] at h2
        rw [if_neg k3, if_neg k4]
        rw [Int.zero_mul, Int.zero_mul]
        push_cast
        omega
theorem one_le (a b : Nat) : 1 ≤ 1 + a + b := by omega
theorem len_pc (s : Sy) (a : At) (p : Pi) (up lo : List Sd) : (pcW s a p up lo).length ≤ 1 + (if p.k = 3 then up.length else 0) + (if p.k = 4 then (if a.e = 0 then 0 else lo.length) else 0) := by
  unfold pcW
  by_cases k1 : p.k = 1
  · rw [if_pos k1]; exact one_le _ _
  rw [if_neg k1]
  by_cases k2 : p.k = 2
  · rw [if_pos k2]; exact one_le _ _
  rw [if_neg k2]
  by_cases k3 : p.k = 3
  · rw [if_pos k3, if_pos k3]; omega
  rw [if_neg k3]
  by_cases k4 : p.k = 4
  · rw [if_pos k4, if_pos k4]
    by_cases h : a.e = 0
    · rw [if_pos h, if_pos h]; simp
    · rw [if_neg h, if_neg h]; omega
  rw [if_neg k4]
  by_cases h : a.e = 0 ∨ p.b ≠ 0 ∧ p.b ≤ a.e
  · rw [if_pos h]; simp
  · rw [if_neg h]; exact one_le _ _
theorem pow_mul {a b c d : Nat} {x y z : Int} (h1 : (2 : Int) ^ a ≤ x * x) (h2 : (2 : Int) ^ b ≤ y * y) (hx : 0 ≤ x) (hy : 0 ≤ y) (hz : x * y ≤ z) (e : c = a + b) : (2 : Int) ^ c ≤ z * z := by
  subst e
  rw [Int.pow_add]
  have p1 : (0 : Int) ≤ 2 ^ b := Int.pow_nonneg (by decide)
  have p2 : 0 ≤ x * x := Int.mul_nonneg hx hx
  have p3 : 0 ≤ x * y := Int.mul_nonneg hx hy
  have q1 : (2 : Int) ^ a * 2 ^ b ≤ (x * x) * (y * y) := Int.mul_le_mul h1 h2 p1 p2
  have q2 : (x * y) * (x * y) ≤ z * z := Int.mul_le_mul hz hz p3 (Int.le_trans p3 hz)
  have q3 : (x * x) * (y * y) = (x * y) * (x * y) := by
    rw [Int.mul_assoc, Int.mul_assoc, Int.mul_left_comm x y y]
  omega
theorem RuOk.cnt {s : Sy} {n t : Int} (sm : Sm s) (ok : okSy s = true) (hn : 0 ≤ n) (h0 : 0 ≤ t) (h1 : t < s.se.length) : cntK 3 (ruOf s n t).p ≤ 1 ∧ cntK 4 (ruOf s n t).p ≤ 1 := by
  have hm := getD_memA s.se [] (show t.toNat < s.se.length by omega)
  have hs := List.all_eq_true.1 (okSy.parts ok).2.2.2.2 _ hm
  have ru := ruOk sm ok hn h0 h1
  unfold okSe at hs
  simp only [Bool.and_eq_true] at hs
  have r1 := ru.i0
  have r2 := ru.i1
  have ha := List.all_eq_true.1 hs.2 (ruI (s.se.getD t.toNat []) n).toNat (List.mem_range.2 (by omega))
  unfold okRi at ha
  rw [Bool.and_eq_true] at ha
  have ha := ha.2
  have e : (s.se.getD t.toNat []).getD (ruI (s.se.getD t.toNat []) n).toNat default = ruOf s n t := rfl
  rw [e] at ha
  unfold okR at ha
  simp only [Bool.and_eq_true, decide_eq_true_eq] at ha
  exact ⟨ha.1.2, ha.2⟩
def mB (n : Int) : Nat := Nat.log2 ((n + 1) * (n + 1)).toNat - 1
theorem pow_toNat {k : Nat} {z : Int} (hz : 0 ≤ z) : (2 : Int) ^ k ≤ z ↔ 2 ^ k ≤ z.toNat := by
  have : ((2 ^ k : Nat) : Int) = (2 : Int) ^ k := by simp
  omega
theorem sq4 {n : Int} (hn : 1 ≤ n) : 4 ≤ (n + 1) * (n + 1) := by
  have : (2 : Int) * 2 ≤ (n + 1) * (n + 1) := Int.mul_le_mul (by omega) (by omega) (by decide) (by omega)
  omega
theorem mB_log {n : Int} (hn : 1 ≤ n) : mB n + 1 = Nat.log2 ((n + 1) * (n + 1)).toNat := by
  have h4 := sq4 hn
  have : 2 ≤ Nat.log2 ((n + 1) * (n + 1)).toNat := (Nat.le_log2 (by omega)).2 (by omega)
  unfold mB
  omega
theorem mB_le {n : Int} (hn : 1 ≤ n) : (2 : Int) ^ (mB n + 1) ≤ (n + 1) * (n + 1) := by
  have h4 := sq4 hn
  rw [mB_log hn, pow_toNat (by omega)]
  exact Nat.log2_self_le (by omega)
theorem mB_max {n : Int} (hn : 1 ≤ n) {m : Nat} (h : (2 : Int) ^ (m + 1) ≤ (n + 1) * (n + 1)) : m ≤ mB n := by
  have h4 := sq4 hn
  rw [pow_toNat (by omega)] at h
  have := (Nat.le_log2 (n := ((n + 1) * (n + 1)).toNat) (k := m + 1) (by omega)).2 h
  have := mB_log hn
  omega
theorem say_len (s : Sy) (sm : Sm s) (ok : okSy s = true) : ∀ (f : Nat) (n t g k d : Int), 1 ≤ n → 0 ≤ t → t < s.se.length → (sayF f s n t g k d).length ≤ 10 * mB n := by
  intro f
  induction f with
  | zero => intro n t g k d _ _ _; simp [sayF]
  | succ f ih =>
    intro n t g k d hn ht0 ht1
    have ru := ruOk sm ok (show 0 ≤ n by omega) ht0 ht1
    obtain ⟨n3, n4⟩ := RuOk.cnt sm ok (show 0 ≤ n by omega) ht0 ht1
    have b3 := cntK_bd 3 (ruOf s n t).p
    have b4 := cntK_bd 4 (ruOf s n t).p
    have hd := ru.d
    have hb := ru.b
    have hpl := ru.pl
    have hpk := ru.p
    have eq : (atOf s n t g k d).q = if 0 < (ruOf s n t).d then n.tdiv (ruOf s n t).d else 0 := rfl
    have ee : (atOf s n t g k d).e = if 0 < (ruOf s n t).d then n.tmod (ruOf s n t).d else 0 := rfl
    show (List.flatMap (fun i : Nat => pcW s { atOf s n t g k d with p := (i : Int) } ((ruOf s n t).p.getD i default) (sayF f s (atOf s n t g k d).q ((ruOf s n t).p.getD i default).s (atOf s n t g k d).c (atOf s n t g k d).k ((atOf s n t g k d).d + 1)) (sayF f s (atOf s n t g k d).e ((ruOf s n t).p.getD i default).s (atOf s n t g k d).g (atOf s n t g k d).k ((atOf s n t g k d).d + 1))) (List.range (ruOf s n t).p.length)).length ≤ _
    generalize atOf s n t g k d = a at *
    generalize ruOf s n t = r at *
    have hU : ∃ U L : Nat, (∀ p, p ∈ r.p → p.k = 3 → (sayF f s a.q p.s a.c a.k (a.d + 1)).length ≤ U) ∧ (∀ p, p ∈ r.p → p.k = 4 → a.e ≠ 0 → (sayF f s a.e p.s a.g a.k (a.d + 1)).length ≤ L) ∧ (a.e = 0 → L = 0) ∧ 10 + U + L ≤ 10 * mB n := by
      by_cases hz : r.d = 0
      · refine ⟨0, 0, ?_, ?_, fun _ => rfl, ?_⟩
        · intro p hp hk
          have := (okPi_k (hpk p hp)).2.2.2 (by omega)
          rw [hz] at this; cases this
        · intro p hp hk
          have := (okPi_k (hpk p hp)).2.2.2 (by omega)
          rw [hz] at this; cases this
        · have : 1 ≤ mB n := mB_max hn (by have := sq4 hn; simpa using this)
          omega
      · have h2 : 2 ≤ r.d := by omega
        have h3 : r.d ≤ n := by omega
        rw [if_pos (by omega), Int.tdiv_eq_ediv_of_nonneg (by omega)] at eq
        rw [if_pos (by omega), Int.tmod_eq_emod_of_nonneg (by omega)] at ee
        have hq1 : 1 ≤ a.q := by rw [eq]; exact Int.le_ediv_of_mul_le (by omega) (by omega)
        have he0 : 0 ≤ a.e := by rw [ee]; exact Int.emod_nonneg _ (by omega)
        have he1 : a.e < r.d := by rw [ee]; exact Int.emod_lt_of_pos _ (by omega)
        have hn' : r.d * a.q + a.e = n := by rw [eq, ee]; exact Int.mul_ediv_add_emod n r.d
        have mq := mB_le hq1
        have sU : ∀ p, p ∈ r.p → p.k = 3 → (sayF f s a.q p.s a.c a.k (a.d + 1)).length ≤ 10 * mB a.q := fun p hp hk => by
          obtain ⟨s0, s1⟩ := (okPi_k (hpk p hp)).2.2.1 (.inl hk)
          exact ih _ _ _ _ _ hq1 s0 s1
        by_cases hez : a.e = 0
        · refine ⟨10 * mB a.q, 0, sU, fun p hp hk h => absurd hez h, fun _ => rfl, ?_⟩
          have : 1 + mB a.q ≤ mB n := mB_max hn (by
            have h5 : 2 * a.q ≤ r.d * a.q := Int.mul_le_mul_of_nonneg_right h2 (by omega)
            have h6 : (2 * a.q + 1) * (2 * a.q + 1) ≤ (n + 1) * (n + 1) := Int.mul_le_mul (by omega) (by omega) (by omega) (by omega)
            have h7 : 1 * 1 ≤ a.q * a.q := Int.mul_le_mul hq1 hq1 (by decide) (by omega)
            have h8 : (2 : Int) ^ (1 + mB a.q + 1) = 2 * 2 ^ (mB a.q + 1) := by rw [show 1 + mB a.q + 1 = (mB a.q + 1) + 1 by omega, Int.pow_succ, Int.mul_comm]
            have h9 : (2 * a.q + 1) * (2 * a.q + 1) = 4 * (a.q * a.q) + 4 * a.q + 1 := by
              simp only [Int.add_mul, Int.mul_add, Int.one_mul, Int.mul_one, Int.mul_assoc, Int.mul_left_comm a.q 2 a.q]; omega
            have h10 : (a.q + 1) * (a.q + 1) = a.q * a.q + 2 * a.q + 1 := by
              simp only [Int.add_mul, Int.mul_add, Int.one_mul, Int.mul_one]; omega
            rw [h8]
            omega)
          omega
        · have he2 : 1 ≤ a.e := by omega
          have me := mB_le he2
          refine ⟨10 * mB a.q, 10 * mB a.e, sU, fun p hp hk h => ?_, fun h => absurd h hez, ?_⟩
          · obtain ⟨s0, s1⟩ := (okPi_k (hpk p hp)).2.2.1 (.inr hk)
            exact ih _ _ _ _ _ he2 s0 s1
          · have : 1 + mB a.q + mB a.e ≤ mB n := mB_max hn (by
              refine pow_mul (d := 0) mq me (by omega) (by omega) ?_ (by omega)
              have h5 : a.q * (a.e + 1) ≤ a.q * r.d := Int.mul_le_mul_of_nonneg_left (by omega) (by omega)
              rw [Int.mul_comm a.q r.d] at h5
              rw [Int.add_mul, Int.one_mul]
              omega)
            omega
    obtain ⟨U, L, u1, u2, u3, u4⟩ := hU
    have hs := len_pcs r.p (fun i : Nat => pcW s { a with p := (i : Int) } (r.p.getD i default) (sayF f s a.q (r.p.getD i default).s a.c a.k (a.d + 1)) (sayF f s a.e (r.p.getD i default).s a.g a.k (a.d + 1))) U L (fun i hi => by
      have hm := getD_memA r.p default hi
      refine Nat.le_trans (len_pc _ _ _ _ _) ?_
      have v1 := u1 _ hm
      have v2 := u2 _ hm
      generalize r.p.getD i default = p at *
      by_cases k3 : p.k = 3
      · rw [if_pos k3, if_pos k3]
        have := v1 k3
        rw [if_neg (show ¬ p.k = 4 by omega), if_neg (show ¬ p.k = 4 by omega)]
        omega
      · rw [if_neg k3, if_neg k3]
        by_cases k4 : p.k = 4
        · rw [if_pos k4, if_pos k4]
          by_cases h : a.e = 0
          · rw [show (if ({ a with p := (i : Int) } : At).e = 0 then 0 else (sayF f s a.e p.s a.g a.k (a.d + 1)).length) = 0 from if_pos h]; omega
          · rw [show (if ({ a with p := (i : Int) } : At).e = 0 then 0 else (sayF f s a.e p.s a.g a.k (a.d + 1)).length) = (sayF f s a.e p.s a.g a.k (a.d + 1)).length from if_neg h]
            have := v2 k4 h
            omega
        · rw [if_neg k4, if_neg k4]; omega) r.p.length (Nat.le_refl _)
    rw [List.take_length] at hs
    have w1 : cntK 3 r.p * (U : Int) ≤ 1 * U := Int.mul_le_mul_of_nonneg_right n3 (by omega)
    have w2 : cntK 4 r.p * (L : Int) ≤ 1 * L := Int.mul_le_mul_of_nonneg_right n4 (by omega)
    exact Int.ofNat_le.1 (Int.le_trans hs (by push_cast; omega))
theorem mB_80 {n : Int} (hn : 1 ≤ n) (h2 : n ≤ 1000000000000) : mB n ≤ 79 := by
  have hl := mB_log hn
  have h3 : (n + 1) * (n + 1) ≤ 1000000000001 * 1000000000001 := Int.mul_le_mul (by omega) (by omega) (by omega) (by decide)
  have h4 := sq4 hn
  have : Nat.log2 ((n + 1) * (n + 1)).toNat < 80 := (Nat.log2_lt (by omega)).2 (by omega)
  omega
theorem say_800 (s : Sy) (sm : Sm s) (ok : okSy s = true) (f : Nat) (n t g k d : Int) (h0 : 0 ≤ n) (h1 : n ≤ 1000000000000) (ht0 : 0 ≤ t) (ht1 : t < s.se.length) : (sayF f s n t g k d).length ≤ 800 := by
  by_cases hn : 1 ≤ n
  · have := say_len s sm ok f n t g k d hn ht0 ht1
    have := mB_80 hn h1
    omega
  · cases f with
    | zero => simp [sayF]
    | succ f =>
      have ru := ruOk sm ok h0 ht0 ht1
      have hd := ru.d
      have hb := ru.b
      have hpl := ru.pl
      have hpk := ru.p
      show (List.flatMap (fun i : Nat => pcW s { atOf s n t g k d with p := (i : Int) } ((ruOf s n t).p.getD i default) (sayF f s (atOf s n t g k d).q ((ruOf s n t).p.getD i default).s (atOf s n t g k d).c (atOf s n t g k d).k ((atOf s n t g k d).d + 1)) (sayF f s (atOf s n t g k d).e ((ruOf s n t).p.getD i default).s (atOf s n t g k d).g (atOf s n t g k d).k ((atOf s n t g k d).d + 1))) (List.range (ruOf s n t).p.length)).length ≤ _
      have hs := len_pcs (ruOf s n t).p (fun i : Nat => pcW s { atOf s n t g k d with p := (i : Int) } ((ruOf s n t).p.getD i default) (sayF f s (atOf s n t g k d).q ((ruOf s n t).p.getD i default).s (atOf s n t g k d).c (atOf s n t g k d).k ((atOf s n t g k d).d + 1)) (sayF f s (atOf s n t g k d).e ((ruOf s n t).p.getD i default).s (atOf s n t g k d).g (atOf s n t g k d).k ((atOf s n t g k d).d + 1))) 0 0 (fun i hi => by
        refine Nat.le_trans (len_pc _ _ _ _ _) ?_
        have hm := getD_memA (ruOf s n t).p default hi
        have hk : ((ruOf s n t).p.getD i default).k = 1 := Decidable.byContradiction fun h => by
          have := (okPi_k (hpk _ hm)).2.2.2 h
          rw [show (ruOf s n t).d = 0 by omega] at this; cases this
        rw [if_neg (show ¬ ((ruOf s n t).p.getD i default).k = 3 by omega), if_neg (show ¬ ((ruOf s n t).p.getD i default).k = 4 by omega)]
        omega) (ruOf s n t).p.length (Nat.le_refl _)
      exact Int.ofNat_le.1 (Int.le_trans hs (by push_cast; omega))
end Go.Proofs.Ytgodfjbmblghnaa


set_option linter.unusedVariables false
set_option linter.unusedSimpArgs false
set_option linter.unnecessarySimpa false
set_option maxRecDepth 20000
set_option maxHeartbeats 2000000
namespace Go.Proofs.Ytgodfjbmblghnaa
open Go Go.Ab Go.Proofs
attribute [local congr] g_bin g_nilS g_nilP g_un g_ext g_bx g_fa g_ld g_st g_ix g_ixA g_slc g_mk g_bs g_bd g_nc g_cv g_len g_lenT g_app g_appB g_cpy g_mm g_call g_callG g_calm g_calmG g_range g_res g_pick g_cond g_loop g_Jv g_eqS g_eqP g_fd g_ixT g_ta g_lkp g_upd g_mkM g_appS g_inv g_callE g_callEG g_invE g_zr g_wr
def okAsk (s : Sy) (n t g k : Int) : Bool := okSy s && inB n 0 s.top && inB t 0 (s.se.length - 1) && inB g 0 (s.gen - 1) && inB k 0 (s.cas - 1)
abbrev asV (n t g k : Int) : V := .agg [I n, I t, I g, I k]
theorem c51 (s : Sy) (n t g k : Int) (H : Hp) (sm : Sm s) : Ret Try.prog 51 [syV s, asV n t g k] H (I (if okAsk s n t g k = true then 0 else 2)) H := by
  have h3 := sm.se
  refine mk51 _ _ rfl (Nat.le_refl _) (.inl rfl) ?_
  simp only [vc51, real]
  repeat (first | (with_reducible first | refine Ju.go ?_ | (refine Hd.go ?_; intro K Q hK hQ; simp only [nod_agg, List.map_cons, nodL_imm, nodL_arr, nd_no, List.map_nil, e_bxI, okE_agg, lv_cons, List.length_nil, Nat.zero_add, Nat.reduceAdd, all_c, ck_I, ck_arr, all_n, Bool.and_self, and_true, true_and, nod_cptr, e_ldcA]; subst hK hQ) | refine Jr.go ?_) | refine sd ?_)
  refine call_of (c18 s H sm) ?_
  cases ho : okSy s
  · have : okAsk s n t g k = false := by unfold okAsk; rw [ho]; rfl
    rw [this]
    repeat (first | (with_reducible first | refine Ju.go ?_ | (refine Hd.go ?_; intro K Q hK hQ; simp only [Bool.false_eq_true, if_false, nod_imm, Try.underlying29, e_neq, Int.reduceEq, decide_false, Bool.not_false, nod_cptr, e_fac, Nat.zero_add, lv_cons, List.length_nil, Nat.reduceAdd, Nat.reduceLeDiff, List.getD_cons_zero, e_ldc, true_and, e_gF, cond_true, j_one, Try.underlying3, List.getD_cons_succ, e_ldcV, nod_arr, nd_no, e_lenA, List.length_map, e_sub, e_cond, if_true]; subst hK hQ) | refine Jr.go ?_) | refine sd ?_)
    exact end1 (fzI _)
  · obtain ⟨r1, r2, r3⟩ := (Fe.of (okSy.parts ho).1).r
    have e : okAsk s n t g k = (inB n 0 s.top && inB t 0 (s.se.length - 1) && inB g 0 (s.gen - 1) && inB k 0 (s.cas - 1)) := by unfold okAsk; rw [ho]; simp only [Bool.true_and]
    repeat (first | (with_reducible first | refine Ju.go ?_ | (refine Hd.go ?_; intro K Q hK hQ; simp only [if_true, nod_imm, Try.underlying29, e_neq, decide_true, Bool.not_true, nod_cptr, e_fac, Nat.zero_add, lv_cons, List.length_nil, Nat.reduceAdd, Nat.reduceLeDiff, List.getD_cons_zero, e_ldc, true_and, e_gF, cond_false]; subst hK hQ) | refine Jr.go ?_) | refine sd ?_)
    refine call_of (c45 _ _ _ _) ?_
    repeat (first | (with_reducible first | refine Ju.go ?_ | (refine Hd.go ?_; intro K Q hK hQ; simp only [nod_imm, e_not, nod_cptr, Try.underlying3, e_fac, Nat.reduceAdd, lv_cons, List.length_nil, Nat.zero_add, Nat.reduceLeDiff, List.getD_cons_succ, List.getD_cons_zero, e_ldcV, nod_arr, nd_no, e_lenA, List.length_map, e_sub, true_and, e_ldc, e_gF, j_fl, j_side]; subst hK hQ) | refine Jr.go ?_) | refine sd ?_)
    refine jo_n (c45 _ _ _ _) ?_
    repeat (first | (with_reducible first | refine Ju.go ?_ | (refine Hd.go ?_; intro K Q hK hQ; simp only [nod_imm, nod_cptr, Try.underlying3, e_fac, Nat.reduceAdd, lv_cons, List.length_nil, Nat.zero_add, Nat.reduceLeDiff, List.getD_cons_succ, List.getD_cons_zero, e_ldc, e_sub, r1, true_and, e_gF]; subst hK hQ) | refine Jr.go ?_) | refine sd ?_)
    refine jo_n (c45 _ _ _ _) ?_
    repeat (first | (with_reducible first | refine Ju.go ?_ | (refine Hd.go ?_; intro K Q hK hQ; simp only [nod_imm, nod_cptr, Try.underlying3, e_fac, Nat.reduceAdd, lv_cons, List.length_nil, Nat.zero_add, Nat.reduceLeDiff, List.getD_cons_succ, List.getD_cons_zero, e_ldc, e_sub, r2, true_and, e_gF]; subst hK hQ) | refine Jr.go ?_) | refine sd ?_)
    refine jo_n (c45 _ _ _ _) ?_
    have e2 : (!inB n 0 s.top || !inB t 0 (s.se.length - 1) || !inB g 0 (s.gen - 1) || !inB k 0 (s.cas - 1)) = !okAsk s n t g k := by rw [e]; simp only [Bool.not_and]
    cases hz : okAsk s n t g k
    · rw [hz] at e2
      repeat (first | (with_reducible first | refine Ju.go ?_ | (refine Hd.go ?_; intro K Q hK hQ; simp only [e2, Bool.not_false, List.getD_cons_zero, nod_imm, e_cond, if_true]; subst hK hQ) | refine Jr.go ?_) | refine sd ?_)
      exact end1 (fzI _)
    · rw [hz] at e2
      repeat (first | (with_reducible first | refine Ju.go ?_ | (refine Hd.go ?_; intro K Q hK hQ; simp only [e2, Bool.not_true, List.getD_cons_zero, nod_imm, e_cond, Bool.false_eq_true, if_false]; subst hK hQ) | refine Jr.go ?_) | refine sd ?_)
      exact end1 (fzI _)
theorem bel_fo (n : Nat) (f : Fo) : Bel n (foV f) := .agg _ fun c hc => by
  simp only [List.mem_cons, List.not_mem_nil, or_false] at hc
  rcases hc with rfl | rfl | rfl | rfl <;> exact .imm _
theorem bel_map {α : Type} {n : Nat} (f : α → V) (l : List α) (g : Fl) (h : ∀ a, Bel n (f a)) : Bel n (.arr (l.map f) g) := .arr _ _ fun c hc => by
  obtain ⟨a, -, rfl⟩ := List.mem_map.1 hc
  exact h a
theorem bel_te (n : Nat) (t : Te) : Bel n (teV t) := .agg _ fun c hc => by
  simp only [List.mem_cons, List.not_mem_nil, or_false] at hc
  rcases hc with rfl | rfl
  · exact .imm _
  · exact bel_map _ _ _ (bel_fo n)
theorem bel_i4 (n : Nat) (a b c d : Int) : Bel n (.agg [I a, I b, I c, I d]) := .agg _ fun c hc => by
  simp only [List.mem_cons, List.not_mem_nil, or_false] at hc
  rcases hc with rfl | rfl | rfl | rfl <;> exact .imm _
theorem bel_nu (n : Nat) (r : Nu) : Bel n (nuV r) := .agg _ fun c hc => by
  simp only [List.mem_cons, List.not_mem_nil, or_false] at hc
  rcases hc with rfl | rfl | rfl
  · exact .imm _
  · exact .imm _
  · exact bel_map _ _ _ fun p => bel_i4 n _ _ _ _
theorem bel_sy (n : Nat) (s : Sy) : Bel n (syV s) := .agg _ fun c hc => by
  simp only [List.mem_cons, List.not_mem_nil, or_false] at hc
  rcases hc with rfl | rfl | rfl | rfl | rfl | rfl | rfl
  · exact .imm _
  · exact .imm _
  · exact .imm _
  · exact .imm _
  · exact bel_map _ _ _ (bel_te n)
  · exact bel_map _ _ _ fun p => bel_i4 n _ _ _ _
  · exact bel_map _ _ _ fun l => bel_map _ _ _ (bel_nu n)
theorem bel_sd (n : Nat) (w : Sd) : Bel n (sdV w) := .agg _ fun c hc => by
  simp only [List.mem_cons, List.not_mem_nil, or_false] at hc
  rcases hc with rfl | rfl | rfl | rfl | rfl | rfl <;> exact .imm _
theorem c76 (s : Sy) (n t g k : Int) (H : Hp) : Ret Try.prog 76 [syV s, asV n t g k] H (.fn 83 [.cptr (syV s), .cptr (asV n t g k)]) H := by
  refine mk76 _ _ rfl (Nat.le_refl _) (.inl rfl) ?_
  simp only [vc76, real]
  repeat (first | (with_reducible first | refine Ju.go ?_ | (refine Hd.go ?_; intro K Q hK hQ; simp only [nod_agg, List.map_cons, nodL_imm, nodL_arr, nd_no, List.map_nil, e_bxI, okE_agg, lv_cons, List.length_nil, Nat.zero_add, Nat.reduceAdd, all_c, ck_I, ck_arr, all_n, Bool.and_self, and_true, true_and]; subst hK hQ) | refine Jr.go ?_) | refine sd ?_)
  refine end1 (.keep _ (.fn _ _ fun c hc => ?_))
  simp only [List.mem_cons, List.not_mem_nil, or_false] at hc
  rcases hc with rfl | rfl
  · exact .cptr _ (bel_sy _ _)
  · exact .cptr _ (bel_i4 _ _ _ _ _)
theorem c83 (s : Sy) (n t g k : Int) (b : Nat) (H H1 : Hp) (o : Bool) (sm : Sm s) (hok : okAsk s n t g k = true) (hY : Ys b (sayF (n.toNat + 1) s n t g k 0) H o H1) :
    Ret Try.prog 83 [.yld b, .cptr (syV s), .cptr (asV n t g k)] H (.tup []) H1 := by
  unfold okAsk at hok
  simp only [Bool.and_eq_true, inB_iff] at hok
  have ht := (okSy.parts hok.1.1.1.1).1
  unfold okHd at ht
  simp only [Bool.and_eq_true, inB_iff] at ht
  refine mk83 _ _ _ rfl (Nat.le_of_eq hY.len.symm) hY.hb ?_
  simp only [vc83, real]
  repeat (first | (with_reducible first | refine Ju.go ?_ | (refine Hd.go ?_; intro K Q hK hQ; simp only [nod_cptr, e_ldcA, lv_cons, List.length_nil, Nat.zero_add, Nat.reduceAdd, true_and, nod_agg, List.map_cons, nodL_imm, nodL_arr, nd_no, List.map_nil, nod_nod]; subst hK hQ) | refine Jr.go ?_) | refine sd ?_)
  refine call_of (c84 s sm hok.1.1.1.1 _ n t g k 0 b H H1 o (by omega) (by omega) (by omega) (by omega) (by omega) (by omega) (by omega) hY) ?_
  repeat (first | (with_reducible first | refine Ju.go ?_ | (refine Hd.go ?_; intro K Q hK hQ; simp only [Try.underlying3, Try.underlying4, Try.underlying5, Try.underlying9, Try.underlying29, Try.underlying57, Try.underlying55, j_one, j_side, j_tl, j_fl, nod_nod, nod_imm, nod_ints, nd_no, nd_own, nd_full, nd_fO, oF_ap, oF_succ, nod_sl, nod_ptr, nod_cptr, nod_fn, nod_junk, nodL_imm, nod_agg, nod_tup, nod2_imm, nod2_agg, cl_imm, cl_ints, cl_agg, e_add, e_sub, e_mul, e_quo, e_rem, e_eql, e_neq, e_lss, e_leq, e_gtr, e_geq, e_beq, e_bne, e_neg, e_not, e_pick, e_cond, e_gT, e_gF, e_len, e_lenA, e_lenS, e_ix, e_ixS, e_ldc, e_ldci, e_fa, rep_cl, rep_I, e_bx, okE_I, okE_B, okE_E8, okE_ints, stV_imm, stV_ints, j_and', j_or', List.getD_cons_zero, List.getD_cons_succ, List.map_cons, List.map_nil, decide_eq_true_eq, Int.toNat_natCast, Nat.mul_one, Nat.zero_add, true_and, and_true, List.length_map, Bool.not_eq_true', decide_eq_false_iff_not, nod_lists, e_lenL, e_ixL, okE_lists, bs1, bs1L, bs2L, e_app, e_appL, e_app0, e_app0L, e_slcLo, e_slcHi, e_slcLH, e_slcHH, e_slcLHH, e_callG, e_callY, e_calmG, e_slS0, e_slSLo, e_slSHi, e_slSLH, e_slSHH, e_slSLHH, e_max2, e_min2, e_max3, e_x20, e_x21, e_x30, e_x31, e_x32, nod2_ints, nod2_lists, rep_fl, bs0, e_nilE, if_true, if_false, cond_true, cond_false, decide_true, decide_false, eq_self, Bool.false_eq_true, false_implies, true_implies, ap_own, ap_full, e_slcLoL, e_slcHiL, e_slcLHL, hp_assoc, hp_cons, hp_nil, hp_len, hp_len_cons, hp_len_nil, lv_cons, lv_nil, vs_0, vs_s, spl_s, spl_0, spl_n, dr_s, dr_0, tk_s, tk_0, e_bxI, e_fac, e_facA, e_ldcA, e_ldcL, e_ldcF, okE_agg, ck_I, ck_B, ck_ints, ck_lists, ck_arr, ck_ptr, ck_cptr, ck_fn, all_c, all_n, stV_agg, stV_lists, stV_arr, stV_ptr, stV_cptr, stV_fn, nodL_ints, nodL_lists, nodL_ptr, nodL_cptr, nodL_fn, nodL_arr0, cl_arr, cl_ptr, cl_cptr, cl_fn, cl_lists, okE_arr, okE_fn, okE_ptr, okE_cptr, e_bd0, e_bd1, e_wr, Nat.reduceAdd, Nat.reduceLeDiff, Nat.reduceEqDiff, Nat.add_zero, Bool.and_self, Bool.true_and, Bool.and_true, e_lc0, e_lA0, e_lM0, e_sc0, e_rc0, e_rA0, e_lI0, e_sI0, e_cI0, e_lc1, e_lA1, e_lM1, e_sc1, e_rc1, e_rA1, e_lI1, e_sI1, e_cI1, e_lc2, e_lA2, e_lM2, e_sc2, e_rc2, e_rA2, e_lI2, e_sI2, e_cI2, e_lc3, e_lA3, e_lM3, e_sc3, e_rc3, e_rA3, e_lI3, e_sI3, e_cI3, e_lc4, e_lA4, e_lM4, e_sc4, e_rc4, e_rA4, e_lI4, e_sI4, e_cI4, e_lc5, e_lA5, e_lM5, e_sc5, e_rc5, e_rA5, e_lI5, e_sI5, e_cI5, own0_arr, own0_ints, own0_lists, own0_imm, own0_ptr, own0_cptr, own0_fn, own0_agg, e_appB, e_appB0, ck_sl, own0_sl, stV_sl, nodL_sl, cl_sl, okE_sl, e_mkM, e_mkI, e_mkIm, e_callB, nod_bfn, nod_ifc, nod_map, nodL_ifc, nodL_bfn, nodL_map, cl_ifc, cl_bfn, ck_ifc, ck_bfn, ck_map, stV_ifc, okE_ifc, okE_bfn, nod_arr, nodL_arr, e_addU, e_mulU, e_shrK, e_shlK, e_andK, e_cv64, e_cv32, e_callEG, e_callEY, e_callEB, e_zr, e_nilSl, e_ncP, e_ncC, e_npnP, e_npeP, e_npnC, e_npeC, e_npnN, e_npeN, e_ixAP, e_ldcP, e_ldcS, e_ldcV, e_ldcT, okE_nilP, ck_nilP, okE_nilI, ck_nilI, okE_str, ck_str, e_tlen, e_tix, e_teq, e_tne, e_tadd, e_tb, e_u8lss, e_u8gtr, noV_full, nod_arr, List.length_map, reduceIte, Int.reduceEq, Int.reduceNeg, ne_eq, not_true_eq_false, not_false_eq_true, Bool.not_true, Bool.not_false, Bool.true_or, Bool.or_true, Bool.false_or, Bool.or_false, Bool.and_true, Bool.and_false, Bool.false_and, Bool.not_not, Bool.or_self, List.length_nil, Int.ofNat_zero, Int.cast_ofNat_Int, Int.natCast_zero, beq_self_eq_true, Bool.true_eq_false]; subst hK hQ) | refine Jr.go ?_) | refine sd ?_)
  exact ⟨.keep _ (.tup _ fun c hc => by simp at hc), by simp⟩
end Go.Proofs.Ytgodfjbmblghnaa


set_option linter.unusedVariables false
set_option linter.unusedSimpArgs false
set_option linter.unnecessarySimpa false
set_option maxRecDepth 20000
set_option maxHeartbeats 2000000
namespace Go.Proofs.Ytgodfjbmblghnaa
open Go Go.Ab Go.Proofs
attribute [local congr] g_bin g_nilS g_nilP g_un g_ext g_bx g_fa g_ld g_st g_ix g_ixA g_slc g_mk g_bs g_bd g_nc g_cv g_len g_lenT g_app g_appB g_cpy g_mm g_call g_callG g_calm g_calmG g_range g_res g_pick g_cond g_loop g_Jv g_eqS g_eqP g_fd g_ixT g_ta g_lkp g_upd g_mkM g_appS g_inv g_callE g_callEG g_invE g_zr g_wr
def gdW (w : Sd) : Bool := !decide (w.x = ByteArray.mk #[])
abbrev sds (l : List Sd) (f : Fl) : V := .arr (l.map sdV) f
theorem e_range (P : Program) (f : Nat) (caps : List V) (np : Nat) (H : Hp) (stp : List V → Hp → (Hp → (Hp → Prop) → Prop) → (Bool → Hp → Prop) → Prop) (n r : Hp → Prop) : aRange P (.fn f caps) np H stp n r = RangeA P f caps np H stp (fun p H' => cnd p (r H') (n H')) := rfl
theorem end2F {H H' : Hp} {a b a' b' : V} (d1 : a'.Nd) (d2 : b'.Nd) (h1 : Fz H.length H' a.nod a') (h2 : Fz H.length H' b.nod b') (ht : H'.take H.length = H) : retF (.tup [a', b']) H [a, b] H' := by
  refine ⟨.tup _ _ rfl (fun c hc => ?_) (fun i c c' h1' h2' => ?_), ht⟩
  · simp at hc; rcases hc with rfl | rfl <;> assumption
  · match i with
    | 0 => simp at h1' h2'; subst h1' h2'; exact h1
    | 1 => simp at h1' h2'; subst h1' h2'; exact h2
    | i + 2 => simp at h2'
theorem bs1S (w : Sd) (z : V) (K : V → Prop) : aBS 6 1 z [(0, sdV w)] K = K (.arr [sdV w] .full) := by
  simp [aBS, aPs, setP, okE, V.cl, cellOk]
  exact fun _ => ⟨rfl, rfl, rfl, rfl, rfl, rfl⟩
theorem hb4 {H : Hp} {a b c d a' b' c' d' : Blk} (h1 : BelB (H.length + 4) a') (h2 : BelB (H.length + 4) b') (h3 : BelB (H.length + 4) c') (h4 : BelB (H.length + 4) d') : ∀ (i : Nat) (blk : Blk), (H ++ [a', b', c', d'])[i]? = some blk → (H ++ [a, b, c, d])[i]? = some blk ∨ BelB (H ++ [a', b', c', d']).length blk := by
  intro i blk hi
  by_cases hl : i < H.length
  · rw [List.getElem?_append_left hl] at hi ⊢
    exact .inl hi
  · rw [List.getElem?_append_right (by omega)] at hi
    have := List.mem_of_getElem? hi
    have el : (H ++ [a', b', c', d']).length = H.length + 4 := by simp
    rw [el]
    right
    simp only [List.mem_cons, List.not_mem_nil, or_false] at this
    rcases this with rfl | rfl | rfl | rfl <;> assumption
theorem belC {n : Nat} {c : V} (h : Bel n c) : BelB n (.cells [c]) := fun x hx => by
  simp only [List.mem_singleton] at hx
  subst hx; exact h
theorem app1S (l : List Sd) (w : Sd) (f g : Fl) (K : V → Prop) : aApp 6 56 (sds l f) (.arr [sdV w] g) K = (f.ap = true ∧ (l.length + 1) * 56 ≤ 140737488355328 ∧ K (sds (l ++ [w]) .own)) :=
  e_appE (K := K) sdV (fun _ => rfl) 56 l [w] f g
theorem Ys.all {b : Nat} {G Gs : List Sd → Hp} {N : Nat} (h1 : ∀ acc w, acc.length < N → gdW w = true → Y1 b w (G acc) true (G (acc ++ [w]))) (h2 : ∀ acc w, acc.length < N → gdW w = false → Y1 b w (G acc) false (Gs acc)) : ∀ (ws acc : List Sd), acc.length + ws.length ≤ N →
    Ys b ws (G acc) (ws.all gdW) (if ws.all gdW = true then G (acc ++ ws) else Gs (acc ++ ws.takeWhile gdW)) := by
  intro ws
  induction ws with
  | nil => intro acc _; simp only [List.all_nil, if_true, List.append_nil]; exact .nil _
  | cons w ws ih =>
    intro acc hN
    rw [List.length_cons] at hN
    cases hg : gdW w
    · rw [List.all_cons, hg, Bool.false_and, List.takeWhile_cons, hg]
      simp only [Bool.false_eq_true, if_false, List.append_nil]
      exact .stop _ _ _ _ (h2 acc w (by omega) hg)
    · rw [List.all_cons, hg, Bool.true_and, List.takeWhile_cons, hg]
      simp only [if_true]
      have := ih (acc ++ [w]) (by simp; omega)
      simp only [List.append_assoc, List.singleton_append] at this
      exact .go _ _ _ _ _ _ (h1 acc w (by omega) hg) this
def saW (s : Sy) (n t g k : Int) : List Sd := sayF (n.toNat + 1) s n t g k 0
def trW (s : Sy) (n t g k : Int) : List Sd := if (saW s n t g k).all gdW = true then saW s n t g k else []
theorem c53 (s : Sy) (n t g k : Int) (H : Hp) (sm : Sm s) (hok : okAsk s n t g k = true) : Ret Try.prog 53 [syV s, asV n t g k] H (.tup [sds (trW s n t g k) .no, B ((saW s n t g k).all gdW)]) H := by
  have hlen : (saW s n t g k).length ≤ 800 := by
    have hk := hok
    unfold okAsk at hk
    simp only [Bool.and_eq_true, inB_iff] at hk
    have ht := (okSy.parts hk.1.1.1.1).1
    unfold okHd at ht
    simp only [Bool.and_eq_true, inB_iff] at ht
    exact say_800 s sm hk.1.1.1.1 _ n t g k 0 (by omega) (by omega) (by omega) (by omega)
  refine mk53 _ _ rfl (Nat.le_refl _) (.inl rfl) ?_
  simp only [vc53, real]
  repeat (first | (with_reducible first | refine Ju.go ?_ | (refine Hd.go ?_; intro K Q hK hQ; simp only [nod_agg, List.map_cons, nodL_imm, nodL_arr, nd_no, List.map_nil, e_bxI, okE_agg, lv_cons, List.length_nil, Nat.zero_add, Nat.reduceAdd, all_c, ck_I, ck_arr, all_n, Bool.and_self, and_true, true_and, e_bx, okE_arr, cl_arr, okE_B, hp_len, hp_len_cons, cl_imm, hp_assoc, hp_cons, hp_nil, nod_cptr, e_ldcA]; subst hK hQ) | refine Jr.go ?_) | refine sd ?_)
  refine call_of (c76 s n t g k _) ?_
  repeat (first | (with_reducible first | refine Ju.go ?_ | (refine Hd.go ?_; intro K Q hK hQ; simp only [Try.underlying3, Try.underlying4, Try.underlying5, Try.underlying9, Try.underlying29, Try.underlying57, Try.underlying55, j_one, j_side, j_tl, j_fl, nod_nod, nod_imm, nod_ints, nd_no, nd_own, nd_full, nd_fO, oF_ap, oF_succ, nod_sl, nod_ptr, nod_cptr, nod_fn, nod_junk, nodL_imm, nod_agg, nod_tup, nod2_imm, nod2_agg, cl_imm, cl_ints, cl_agg, e_add, e_sub, e_mul, e_quo, e_rem, e_eql, e_neq, e_lss, e_leq, e_gtr, e_geq, e_beq, e_bne, e_neg, e_not, e_pick, e_cond, e_gT, e_gF, e_len, e_lenA, e_lenS, e_ix, e_ixS, e_ldc, e_ldci, e_fa, rep_cl, rep_I, e_bx, okE_I, okE_B, okE_E8, okE_ints, stV_imm, stV_ints, j_and', j_or', List.getD_cons_zero, List.getD_cons_succ, List.map_cons, List.map_nil, decide_eq_true_eq, Int.toNat_natCast, Nat.mul_one, Nat.zero_add, true_and, and_true, List.length_map, Bool.not_eq_true', decide_eq_false_iff_not, nod_lists, e_lenL, e_ixL, okE_lists, bs1, bs1L, bs2L, e_app, e_appL, e_app0, e_app0L, e_slcLo, e_slcHi, e_slcLH, e_slcHH, e_slcLHH, e_callG, e_callY, e_calmG, e_slS0, e_slSLo, e_slSHi, e_slSLH, e_slSHH, e_slSLHH, e_max2, e_min2, e_max3, e_x20, e_x21, e_x30, e_x31, e_x32, nod2_ints, nod2_lists, rep_fl, bs0, e_nilE, if_true, if_false, cond_true, cond_false, decide_true, decide_false, eq_self, Bool.false_eq_true, false_implies, true_implies, ap_own, ap_full, e_slcLoL, e_slcHiL, e_slcLHL, hp_assoc, hp_cons, hp_nil, hp_len, hp_len_cons, hp_len_nil, lv_cons, lv_nil, vs_0, vs_s, spl_s, spl_0, spl_n, dr_s, dr_0, tk_s, tk_0, e_bxI, e_fac, e_facA, e_ldcA, e_ldcL, e_ldcF, okE_agg, ck_I, ck_B, ck_ints, ck_lists, ck_arr, ck_ptr, ck_cptr, ck_fn, all_c, all_n, stV_agg, stV_lists, stV_arr, stV_ptr, stV_cptr, stV_fn, nodL_ints, nodL_lists, nodL_ptr, nodL_cptr, nodL_fn, nodL_arr0, cl_arr, cl_ptr, cl_cptr, cl_fn, cl_lists, okE_arr, okE_fn, okE_ptr, okE_cptr, e_bd0, e_bd1, e_wr, Nat.reduceAdd, Nat.reduceLeDiff, Nat.reduceEqDiff, Nat.add_zero, Bool.and_self, Bool.true_and, Bool.and_true, e_lc0, e_lA0, e_lM0, e_sc0, e_rc0, e_rA0, e_lI0, e_sI0, e_cI0, e_lc1, e_lA1, e_lM1, e_sc1, e_rc1, e_rA1, e_lI1, e_sI1, e_cI1, e_lc2, e_lA2, e_lM2, e_sc2, e_rc2, e_rA2, e_lI2, e_sI2, e_cI2, e_lc3, e_lA3, e_lM3, e_sc3, e_rc3, e_rA3, e_lI3, e_sI3, e_cI3, e_lc4, e_lA4, e_lM4, e_sc4, e_rc4, e_rA4, e_lI4, e_sI4, e_cI4, e_lc5, e_lA5, e_lM5, e_sc5, e_rc5, e_rA5, e_lI5, e_sI5, e_cI5, own0_arr, own0_ints, own0_lists, own0_imm, own0_ptr, own0_cptr, own0_fn, own0_agg, e_appB, e_appB0, ck_sl, own0_sl, stV_sl, nodL_sl, cl_sl, okE_sl, e_mkM, e_mkI, e_mkIm, e_callB, nod_bfn, nod_ifc, nod_map, nodL_ifc, nodL_bfn, nodL_map, cl_ifc, cl_bfn, ck_ifc, ck_bfn, ck_map, stV_ifc, okE_ifc, okE_bfn, nod_arr, nodL_arr, e_addU, e_mulU, e_shrK, e_shlK, e_andK, e_cv64, e_cv32, e_callEG, e_callEY, e_callEB, e_zr, e_nilSl, e_ncP, e_ncC, e_npnP, e_npeP, e_npnC, e_npeC, e_npnN, e_npeN, e_ixAP, e_ldcP, e_ldcS, e_ldcV, e_ldcT, okE_nilP, ck_nilP, okE_nilI, ck_nilI, okE_str, ck_str, e_tlen, e_tix, e_teq, e_tne, e_tadd, e_tb, e_u8lss, e_u8gtr, noV_full, nod_arr, List.length_map, reduceIte, Int.reduceEq, Int.reduceNeg, ne_eq, not_true_eq_false, not_false_eq_true, Bool.not_true, Bool.not_false, Bool.true_or, Bool.or_true, Bool.false_or, Bool.or_false, Bool.and_true, Bool.and_false, Bool.false_and, Bool.not_not, Bool.or_self, List.length_nil, Int.ofNat_zero, Int.cast_ofNat_Int, Int.natCast_zero, beq_self_eq_true, Bool.true_eq_false]; subst hK hQ) | refine Jr.go ?_) | refine sd ?_)
  show aRange Try.prog (V.fn 83 _) 1 _ _ _ _
  rw [e_range]
  intro L hY hbelL
  have hl1 : (H ++ [Blk.cells [V.arr [] Fl.full], Blk.cells [B false], Blk.cells [V.arr [] Fl.full]]).length = H.length + 3 := by simp
  rw [hl1] at hY hbelL ⊢
  let G : List Sd → Hp := fun acc => H ++ [.cells [.arr [] .full], .cells [B false], .cells [sds acc (oF acc.length)], L .ready false]
  let Gs : List Sd → Hp := fun acc => H ++ [.cells [.arr [] .full], .cells [B false], .cells [sds acc (oF acc.length)], L .done true]
  have gL : ∀ acc X, (G acc ++ X)[H.length + 3]? = some (L .ready false) := fun acc X => by simp [G]
  have gLs : ∀ acc X, (Gs acc ++ X)[H.length + 3]? = some (L .done true) := fun acc X => by simp [Gs]
  have eZ : ∀ acc X, (G acc ++ X).set (H.length + 3) (L .busy false) = H ++ (.cells [.arr [] .full] :: .cells [B false] :: .cells [sds acc (oF acc.length)] :: L .busy false :: X) := fun acc X => by
    simp only [G, hp_assoc, hp_cons, hp_nil, hp_setk, hp_ss, hp_s0]
  have y1 : ∀ acc w, acc.length < 800 → gdW w = true → Y1 (H.length + 3) w (G acc) true (G (acc ++ [w])) := by
    intro acc w ha hg
    have hg' : decide (w.x = ByteArray.mk #[]) = false := by unfold gdW at hg; simpa using hg
    refine ⟨fun X => ?_, by simp [G], ?_⟩
    · refine hY _ _ false _ rfl (gL acc X) ?_
      repeat (first | (with_reducible first | refine Ju.go ?_ | (refine Hd.go ?_; intro K Q hK hQ; simp only [List.getD_cons_zero, nod_agg, List.map_cons, nodL_imm, List.map_nil, e_bxI, okE_agg, lv_cons, List.length_nil, Nat.zero_add, Nat.reduceAdd, all_c, ck_str, ck_I, all_n, Bool.and_self, and_true, true_and]; subst hK hQ) | refine Jr.go ?_) | refine sd ?_)
      refine ⟨gL acc X, ?_⟩
      rw [eZ]
      repeat (first | (with_reducible first | refine Ju.go ?_ | (refine Hd.go ?_; intro K Q hK hQ; simp only [nod_cptr, e_fac, Nat.zero_add, lv_cons, List.length_nil, Nat.reduceAdd, Nat.reduceLeDiff, List.getD_cons_zero, true_and, e_ldc, nod_imm, Try.underlying9, e_teq, hg', e_cond, Bool.false_eq_true, if_false, nod_ptr, e_lM2, nodL_arr, vs_0, e_ldcA, nod_agg, List.map_cons, nodL_imm, List.map_nil, bs1S, nod_arr, nd_full, app1S, oF_ap, e_sc2, stV_arr, okE_arr, cl_arr, spl_0, spl_n]; subst hK hQ) | refine Jr.go ?_) | refine sd ?_)
      have eo : oF (acc ++ [w]).length = .own := by rw [List.length_append]; rfl
      refine ⟨rfl, by simp, ?_⟩
      simp only [G, eo, hp_assoc, hp_cons, hp_nil, hp_setk, hp_ss, hp_s0, cond_false]
    · exact .inr (hb4 (belC (.arr _ _ fun c hc => by simp at hc)) (belC (.imm _)) (belC (bel_map _ _ _ (bel_sd _))) (hbelL _ _ _ (by omega)))
  have y2 : ∀ acc w, acc.length < 800 → gdW w = false → Y1 (H.length + 3) w (G acc) false (Gs acc) := by
    intro acc w ha hg
    have hg' : decide (w.x = ByteArray.mk #[]) = true := by unfold gdW at hg; simpa using hg
    refine ⟨fun X => ?_, by simp [G, Gs], ?_⟩
    · refine hY _ _ true _ rfl (gL acc X) ?_
      repeat (first | (with_reducible first | refine Ju.go ?_ | (refine Hd.go ?_; intro K Q hK hQ; simp only [List.getD_cons_zero, nod_agg, List.map_cons, nodL_imm, List.map_nil, e_bxI, okE_agg, lv_cons, List.length_nil, Nat.zero_add, Nat.reduceAdd, all_c, ck_str, ck_I, all_n, Bool.and_self, and_true, true_and]; subst hK hQ) | refine Jr.go ?_) | refine sd ?_)
      refine ⟨gL acc X, ?_⟩
      rw [eZ]
      repeat (first | (with_reducible first | refine Ju.go ?_ | (refine Hd.go ?_; intro K Q hK hQ; simp only [nod_cptr, e_fac, Nat.zero_add, lv_cons, List.length_nil, Nat.reduceAdd, Nat.reduceLeDiff, List.getD_cons_zero, true_and, e_ldc, nod_imm, Try.underlying9, e_teq, hg', e_cond, if_true, nod_ptr, e_sc0, stV_arr, okE_arr, cl_arr, spl_0, spl_n, e_sc1, stV_imm, okE_B, cl_imm]; subst hK hQ) | refine Jr.go ?_) | refine sd ?_)
      refine ⟨rfl, by simp, ?_⟩
      simp only [Gs, hp_assoc, hp_cons, hp_nil, hp_setk, hp_ss, hp_s0, cond_true]
    · exact .inr (hb4 (belC (.arr _ _ fun c hc => by simp at hc)) (belC (.imm _)) (belC (bel_map _ _ _ (bel_sd _))) (hbelL _ _ _ (by omega)))
  have hYs := Ys.all y1 y2 (saW s n t g k) [] (by simpa using hlen)
  rw [show H ++ [Blk.cells [V.arr [] Fl.full], Blk.cells [B false], Blk.cells [V.arr [] Fl.full]] ++ [L .ready false] = G [] by rw [List.append_assoc]; rfl]
  unfold trW
  cases ha : (saW s n t g k).all gdW
  · rw [ha] at hYs
    simp only [Bool.false_eq_true, if_false, List.nil_append] at hYs ⊢
    refine ⟨_, _, .done, true, c83 s n t g k _ _ _ _ sm hok hYs, ?_, (fun h => by cases h), ?_⟩
    · exact (List.append_nil (Gs _)) ▸ gLs _ []
    · have e : ∀ acc, (Gs acc).set (H.length + 3) .dead = H ++ [.cells [.arr [] .full], .cells [B false], .cells [sds acc (oF acc.length)], .dead] := fun acc => by
        simp only [Gs, hp_setk, hp_ss, hp_s0]
      rw [e]
      show aRes _ _ _ _ _
      repeat (first | (with_reducible first | refine Ju.go ?_ | (refine Hd.go ?_; intro K Q hK hQ; simp only [nod_ptr, e_rc0, Nat.zero_add, lv_cons, List.length_nil, Nat.reduceLeDiff, List.getD_cons_zero, true_and, e_rc1]; subst hK hQ) | refine Jr.go ?_) | refine sd ?_)
      exact end2F rfl rfl (.full _ (.arr _ _ fun c hc => by simp at hc)) (fzI _) (by simp)
  · rw [ha] at hYs
    simp only [if_true, List.nil_append] at hYs ⊢
    refine ⟨_, _, .ready, false, c83 s n t g k _ _ _ _ sm hok hYs, ?_, (fun h => by cases h), ?_⟩
    · exact (List.append_nil (G _)) ▸ gL _ []
    · have e : ∀ acc, (G acc).set (H.length + 3) .dead = H ++ [.cells [.arr [] .full], .cells [B false], .cells [sds acc (oF acc.length)], .dead] := fun acc => by
        simp only [G, hp_setk, hp_ss, hp_s0]
      rw [e]
      show aLd _ _ _ _ _ _
      generalize saW s n t g k = ws
      generalize oF ws.length = f
      cases f
      · repeat (first | (with_reducible first | refine Ju.go ?_ | (refine Hd.go ?_; intro K Q hK hQ; simp only [nod_ptr, e_lc2, Nat.zero_add, lv_cons, List.length_nil, Nat.reduceLeDiff, List.getD_cons_zero, nod_arr, nd_no, true_and, e_sc0, stV_arr, okE_arr, cl_arr, spl_0, spl_n, e_sc1, stV_imm, okE_B, cl_imm, e_rc0, e_rc1]; subst hK hQ) | refine Jr.go ?_) | refine sd ?_)
        exact end2F rfl rfl (.keep _ (bel_map _ _ _ (bel_sd _))) (fzI _) (by simp)
      · repeat (first | (with_reducible first | refine Ju.go ?_ | (refine Hd.go ?_; intro K Q hK hQ; simp only [nod_ptr, e_lc2, Nat.zero_add, lv_cons, List.length_nil, Nat.reduceLeDiff, List.getD_cons_zero, nod_arr, nd_own, true_and, e_sc0, stV_arr, okE_arr, cl_arr, spl_0, spl_n, e_sc1, stV_imm, okE_B, cl_imm, e_rc0, e_rc1]; subst hK hQ) | refine Jr.go ?_) | refine sd ?_)
        exact end2F rfl rfl (.keep _ (bel_map _ _ _ (bel_sd _))) (fzI _) (by simp)
      · repeat (first | (with_reducible first | refine Ju.go ?_ | (refine Hd.go ?_; intro K Q hK hQ; simp only [nod_ptr, e_lc2, Nat.zero_add, lv_cons, List.length_nil, Nat.reduceLeDiff, List.getD_cons_zero, nod_arr, nd_full, true_and, e_sc0, stV_arr, okE_arr, cl_arr, spl_0, spl_n, e_sc1, stV_imm, okE_B, cl_imm, e_rc0, e_rc1]; subst hK hQ) | refine Jr.go ?_) | refine sd ?_)
        exact end2F rfl rfl (.full _ (bel_map _ _ _ (bel_sd _))) (fzI _) (by simp)
end Go.Proofs.Ytgodfjbmblghnaa


set_option linter.unusedVariables false
set_option linter.unusedSimpArgs false
set_option linter.unnecessarySimpa false
set_option maxRecDepth 20000
set_option maxHeartbeats 2000000
namespace Go.Proofs.Ytgodfjbmblghnaa
open Go Go.Ab Go.Proofs
attribute [local congr] g_bin g_nilS g_nilP g_un g_ext g_bx g_fa g_ld g_st g_ix g_ixA g_slc g_mk g_bs g_bd g_nc g_cv g_len g_lenT g_app g_appB g_cpy g_mm g_call g_callG g_calm g_calmG g_range g_res g_pick g_cond g_loop g_Jv g_eqS g_eqP g_fd g_ixT g_ta g_lkp g_upd g_mkM g_appS g_inv g_callE g_callEG g_invE g_zr g_wr
def tx (w : Sd) : V := T w.x
theorem ix_sd (l : List Sd) (f : Fl) (i : Int) {K : V → Prop} : aIx 6 (.arr (l.map sdV) f) (I i) K = (0 ≤ i ∧ i < l.length ∧ K (.cptr (sdV (l.getD i.toNat default)))) := e_ixE sdV default (fun _ => rfl) l f i
theorem bs1T (x : ByteArray) (z : V) (K : V → Prop) : aBS 1 1 z [(0, T x)] K = K (.arr [T x] .full) := by
  simp [aBS, aPs, setP, okE, V.cl, cellOk]
  exact fun _ => rfl
theorem app1T (l : List Sd) (w : Sd) (f g : Fl) (K : V → Prop) : aApp 1 16 (.arr (l.map tx) f) (.arr [T w.x] g) K = (f.ap = true ∧ (l.length + 1) * 16 ≤ 140737488355328 ∧ K (.arr ((l ++ [w]).map tx) .own)) :=
  e_appE (K := K) tx (fun _ => rfl) 16 l [w] f g
theorem trW_len {s : Sy} {n t g k : Int} (sm : Sm s) (hok : okAsk s n t g k = true) : (trW s n t g k).length ≤ 800 := by
  unfold trW
  split
  · have hk := hok
    unfold okAsk at hk
    simp only [Bool.and_eq_true, inB_iff] at hk
    have ht := (okSy.parts hk.1.1.1.1).1
    unfold okHd at ht
    simp only [Bool.and_eq_true, inB_iff] at ht
    exact say_800 s sm hk.1.1.1.1 _ n t g k 0 (by omega) (by omega) (by omega) (by omega)
  · simp
theorem c52 (s : Sy) (n t g k : Int) (H : Hp) (sm : Sm s) (hok : okAsk s n t g k = true) : Ret Try.prog 52 [syV s, asV n t g k] H (.tup [.arr ((trW s n t g k).map tx) .no, B ((saW s n t g k).all gdW)]) H := by
  have hlen := trW_len sm hok
  refine mk52 _ _ rfl (Nat.le_refl _) (.inl rfl) ?_
  simp only [vc52, real]
  repeat (first | (with_reducible first | refine Ju.go ?_ | (refine Hd.go ?_; intro K Q hK hQ; simp only [nod_agg, List.map_cons, nodL_imm, nodL_arr, nd_no, List.map_nil, e_bxI, okE_agg, lv_cons, List.length_nil, Nat.zero_add, Nat.reduceAdd, all_c, ck_I, ck_arr, all_n, Bool.and_self, and_true, true_and, nod_cptr, e_ldcA]; subst hK hQ) | refine Jr.go ?_) | refine sd ?_)
  refine call_of (c53 s n t g k _ sm hok) ?_
  generalize trW s n t g k = l at *
  generalize (saW s n t g k).all gdW = bb at *
  repeat (first | (with_reducible first | refine Ju.go ?_ | (refine Hd.go ?_; intro K Q hK hQ; simp only [nod_tup, List.map_cons, nod2_arr, nd_no, nod2_imm, List.map_nil, e_x20, e_x21, List.getD_cons_zero, nod_arr, e_lenA, List.length_map]; subst hK hQ) | refine Jr.go ?_) | refine sd ?_)
  refine loop_of (fun i : Nat => i ≤ l.length) (fun i => [B bb, .arr ((l.take i).map tx) (oF i), sds l .no, I l.length, I i]) (fun _ => H) (fun i => l.length - i) 0 (Nat.zero_le _) rfl rfl ?_
  intro i hi
  repeat (first | (with_reducible first | refine Ju.go ?_ | (refine Hd.go ?_; intro K Q hK hQ; simp only [List.getD_cons_succ, List.getD_cons_zero, nod_imm, Try.underlying3, e_lss, e_cond, decide_eq_true_eq]; subst hK hQ) | refine Jr.go ?_) | refine sd ?_)
  by_cases hlt : i < l.length
  · have d : (i : Int) < l.length := by omega
    have tk := take_snocA l default hlt
    have tl : (l.take i).length = i := by rw [List.length_take]; omega
    repeat (first | (with_reducible first | refine Ju.go ?_ | (refine Hd.go ?_; intro K Q hK hQ; simp only [d, if_true, List.getD_cons_succ, List.getD_cons_zero, nod_arr, nd_no, nod_imm, ix_sd, Int.toNat_natCast, true_and, nod_cptr, e_ldcA, lv_cons, List.length_nil, Nat.zero_add, Nat.reduceAdd, nod_agg, List.map_cons, nodL_imm, List.map_nil, e_bxI, okE_agg, all_c, ck_str, ck_I, all_n, Bool.and_self, and_true, e_fac, Nat.reduceLeDiff, e_ldc]; subst hK hQ) | refine Jr.go ?_) | refine sd ?_)
    generalize l.getD i default = w at *
    repeat (first | (with_reducible first | refine Ju.go ?_ | (refine Hd.go ?_; intro K Q hK hQ; simp only [bs1T, List.getD_cons_succ, List.getD_cons_zero, nod_arr, nd_full, app1T, oF_ap, tl, true_and, nod_imm, Try.underlying3, e_add]; subst hK hQ) | refine Jr.go ?_) | refine sd ?_)
    exact ⟨i + 1, by omega, by rw [tk]; rfl, rfl, by omega⟩
  · have d : ¬ (i : Int) < l.length := by omega
    repeat (first | (with_reducible first | refine Ju.go ?_ | (refine Hd.go ?_; intro K Q hK hQ; simp only [d, if_false, List.getD_cons_zero, List.getD_cons_succ]; subst hK hQ) | refine Jr.go ?_) | refine sd ?_)
    rw [List.take_of_length_le (by omega)]
    have bl : ∀ f, Bel H.length (.arr (l.map tx) f) := fun f => bel_map _ _ _ fun w => .imm _
    generalize oF i = f
    cases f
    · exact end2F rfl rfl (.keep _ (bl _)) (fzI _) (by simp)
    · exact end2F rfl rfl (.keep _ (bl _)) (fzI _) (by simp)
    · exact end2F rfl rfl (.full _ (bl _)) (fzI _) (by simp)
def spE (s : Sy) (n t g k : Int) : Int := if okAsk s n t g k = true then (if (saW s n t g k).all gdW = true then 0 else 5) else 2
def spL (s : Sy) (n t g k : Int) : List Sd := if okAsk s n t g k = true then trW s n t g k else []
theorem c20 (s : Sy) (n t g k : Int) (H : Hp) (sm : Sm s) : Ret Try.prog 20 [syV s, asV n t g k] H (.tup [.arr ((spL s n t g k).map tx) .no, I (spE s n t g k)]) H := by
  unfold spE spL
  refine mk20 _ _ rfl (Nat.le_refl _) (.inl rfl) ?_
  simp only [vc20, real]
  repeat (first | (with_reducible first | refine Ju.go ?_ | (refine Hd.go ?_; intro K Q hK hQ; simp only [nod_agg, List.map_cons, nodL_imm, nodL_arr, nd_no, List.map_nil, e_bxI, okE_agg, lv_cons, List.length_nil, Nat.zero_add, Nat.reduceAdd, all_c, ck_I, ck_arr, all_n, Bool.and_self, and_true, true_and, nod_cptr, e_ldcA]; subst hK hQ) | refine Jr.go ?_) | refine sd ?_)
  refine call_of (c51 s n t g k _ sm) ?_
  by_cases ho : okAsk s n t g k = true
  · rw [if_pos ho, if_pos ho, if_pos ho]
    repeat (first | (with_reducible first | refine Ju.go ?_ | (refine Hd.go ?_; intro K Q hK hQ; simp only [nod_imm, Try.underlying29, e_neq, decide_true, Bool.not_true, e_cond, Bool.false_eq_true, if_false, List.getD_cons_zero, nod_cptr, e_ldcA, lv_cons, List.length_nil, Nat.zero_add, Nat.reduceAdd, true_and, nod_agg, List.map_cons, nodL_imm, nodL_arr, nd_no, List.map_nil, e_bd1, okE_agg, all_c, ck_I, ck_arr, all_n, Bool.and_self, and_true, Nat.reduceLeDiff, cl_agg, spl_0, spl_n, e_bd0, List.getD_cons_succ]; subst hK hQ) | refine Jr.go ?_) | refine sd ?_)
    refine call_of (c52 s n t g k _ sm ho) ?_
    unfold trW
    cases hg : (saW s n t g k).all gdW
    · simp only [Bool.false_eq_true, if_false]
      repeat (first | (with_reducible first | refine Ju.go ?_ | (refine Hd.go ?_; intro K Q hK hQ; simp only [List.map_nil, nod_tup, List.map_cons, nod2_arr, nd_no, nod2_imm, e_x20, e_x21, nod_imm, e_not, Bool.not_false, e_cond, if_true]; subst hK hQ) | refine Jr.go ?_) | refine sd ?_)
      exact end2F rfl rfl (.full _ (.arr _ _ fun c hc => by simp at hc)) (fzI _) (by simp)
    · simp only [if_true]
      repeat (first | (with_reducible first | refine Ju.go ?_ | (refine Hd.go ?_; intro K Q hK hQ; simp only [nod_tup, List.map_cons, nod2_arr, nd_no, nod2_imm, List.map_nil, e_x20, e_x21, nod_imm, e_not, Bool.not_true, e_cond, Bool.false_eq_true, if_false]; subst hK hQ) | refine Jr.go ?_) | refine sd ?_)
      exact end2F rfl rfl (.keep _ (bel_map _ _ _ fun w => .imm _)) (fzI _) (by simp)
  · rw [if_neg ho, if_neg ho, if_neg ho]
    repeat (first | (with_reducible first | refine Ju.go ?_ | (refine Hd.go ?_; intro K Q hK hQ; simp only [nod_imm, Try.underlying29, e_neq, Int.reduceEq, decide_false, Bool.not_false, e_cond, if_true]; subst hK hQ) | refine Jr.go ?_) | refine sd ?_)
    exact end2F rfl rfl (.full _ (.arr _ _ fun c hc => by simp at hc)) (fzI _) (by simp)
theorem c21 (s : Sy) (n t g k : Int) (H : Hp) (sm : Sm s) : Ret Try.prog 21 [syV s, asV n t g k] H (.tup [sds (spL s n t g k) .no, I (spE s n t g k)]) H := by
  unfold spE spL
  refine mk21 _ _ rfl (Nat.le_refl _) (.inl rfl) ?_
  simp only [vc21, real]
  repeat (first | (with_reducible first | refine Ju.go ?_ | (refine Hd.go ?_; intro K Q hK hQ; simp only [nod_agg, List.map_cons, nodL_imm, nodL_arr, nd_no, List.map_nil, e_bxI, okE_agg, lv_cons, List.length_nil, Nat.zero_add, Nat.reduceAdd, all_c, ck_I, ck_arr, all_n, Bool.and_self, and_true, true_and, nod_cptr, e_ldcA]; subst hK hQ) | refine Jr.go ?_) | refine sd ?_)
  refine call_of (c51 s n t g k _ sm) ?_
  by_cases ho : okAsk s n t g k = true
  · rw [if_pos ho, if_pos ho, if_pos ho]
    repeat (first | (with_reducible first | refine Ju.go ?_ | (refine Hd.go ?_; intro K Q hK hQ; simp only [nod_imm, Try.underlying29, e_neq, decide_true, Bool.not_true, e_cond, Bool.false_eq_true, if_false, List.getD_cons_zero, nod_cptr, e_ldcA, lv_cons, List.length_nil, Nat.zero_add, Nat.reduceAdd, true_and, nod_agg, List.map_cons, nodL_imm, nodL_arr, nd_no, List.map_nil, e_bd1, okE_agg, all_c, ck_I, ck_arr, all_n, Bool.and_self, and_true, Nat.reduceLeDiff, cl_agg, spl_0, spl_n, e_bd0, List.getD_cons_succ]; subst hK hQ) | refine Jr.go ?_) | refine sd ?_)
    refine call_of (c53 s n t g k _ sm ho) ?_
    unfold trW
    cases hg : (saW s n t g k).all gdW
    · simp only [Bool.false_eq_true, if_false]
      repeat (first | (with_reducible first | refine Ju.go ?_ | (refine Hd.go ?_; intro K Q hK hQ; simp only [nod_tup, List.map_cons, nod2_arr, List.map_nil, nd_no, nod2_imm, e_x20, e_x21, nod_imm, e_not, Bool.not_false, e_cond, if_true]; subst hK hQ) | refine Jr.go ?_) | refine sd ?_)
      exact end2F rfl rfl (.full _ (.arr _ _ fun c hc => by simp at hc)) (fzI _) (by simp)
    · simp only [if_true]
      repeat (first | (with_reducible first | refine Ju.go ?_ | (refine Hd.go ?_; intro K Q hK hQ; simp only [nod_tup, List.map_cons, nod2_arr, nd_no, nod2_imm, List.map_nil, e_x20, e_x21, nod_imm, e_not, Bool.not_true, e_cond, Bool.false_eq_true, if_false]; subst hK hQ) | refine Jr.go ?_) | refine sd ?_)
      exact end2F rfl rfl (.keep _ (bel_map _ _ _ (bel_sd _))) (fzI _) (by simp)
  · rw [if_neg ho, if_neg ho, if_neg ho]
    repeat (first | (with_reducible first | refine Ju.go ?_ | (refine Hd.go ?_; intro K Q hK hQ; simp only [nod_imm, Try.underlying29, e_neq, Int.reduceEq, decide_false, Bool.not_false, e_cond, if_true]; subst hK hQ) | refine Jr.go ?_) | refine sd ?_)
    exact end2F rfl rfl (.full _ (.arr _ _ fun c hc => by simp at hc)) (fzI _) (by simp)
end Go.Proofs.Ytgodfjbmblghnaa


set_option linter.unusedVariables false
set_option linter.unusedSimpArgs false
set_option linter.unnecessarySimpa false
set_option maxRecDepth 20000
set_option maxHeartbeats 2000000
namespace Go.Proofs.Ytgodfjbmblghnaa
open Go Go.Ab Go.Proofs
attribute [local congr] g_bin g_nilS g_nilP g_un g_ext g_bx g_fa g_ld g_st g_ix g_ixA g_slc g_mk g_bs g_bd g_nc g_cv g_len g_lenT g_app g_appB g_cpy g_mm g_call g_callG g_calm g_calmG g_range g_res g_pick g_cond g_loop g_Jv g_eqS g_eqP g_fd g_ixT g_ta g_lkp g_upd g_mkM g_appS g_inv g_callE g_callEG g_invE g_zr g_wr
def tb (x : ByteArray) : V := T x
theorem tx_tb (l : List Sd) : l.map tx = (l.map Sd.x).map tb := by rw [List.map_map]; rfl
theorem ix_tb (l : List ByteArray) (f : Fl) (i : Int) {K : V → Prop} : aIx 1 (.arr (l.map tb) f) (I i) K = (0 ≤ i ∧ i < l.length ∧ K (.cptr (T (l.getD i.toNat default)))) := e_ixE tb default (fun _ => rfl) l f i
theorem eq_take {α : Type} [DecidableEq α] (a b : List α) (d : α) {i : Nat} (h1 : i < a.length) (h2 : i < b.length) (h : a.take i = b.take i) (he : a.getD i d = b.getD i d) : a.take (i + 1) = b.take (i + 1) := by
  rw [take_snocA a d h1, take_snocA b d h2, h, he]
theorem ne_at {α : Type} (a b : List α) (d : α) {i : Nat} (he : a.getD i d ≠ b.getD i d) : a ≠ b := fun h => he (by rw [h])
theorem c61 (a b : List ByteArray) (H : Hp) (ha : a.length ≤ 1000000000000) : Ret Try.prog 61 [.arr (a.map tb) .no, .arr (b.map tb) .no] H (B (decide (a = b))) H := by
  refine mk61 _ _ rfl (Nat.le_refl _) (.inl rfl) ?_
  simp only [vc61, real]
  repeat (first | (with_reducible first | refine Ju.go ?_ | (refine Hd.go ?_; intro K Q hK hQ; simp only [nod_arr, nd_no, e_lenA, List.length_map, nod_imm, Try.underlying3, e_neq, e_cond, Bool.not_eq_true', decide_eq_false_iff_not]; subst hK hQ) | refine Jr.go ?_) | refine sd ?_)
  by_cases hl : a.length = b.length
  · have dl : (a.length : Int) = b.length := by omega
    repeat (first | (with_reducible first | refine Ju.go ?_ | (refine Hd.go ?_; intro K Q hK hQ; simp only [dl, not_true_eq_false, if_false, nod_arr, nd_no, e_lenA, List.length_map]; subst hK hQ) | refine Jr.go ?_) | refine sd ?_)
    refine loop_of (fun i : Nat => i ≤ a.length ∧ a.take i = b.take i) (fun i => [.arr (a.map tb) .no, .arr (b.map tb) .no, I b.length, I i]) (fun _ => H) (fun i => a.length - i) 0 ⟨Nat.zero_le _, rfl⟩ rfl rfl ?_
    intro i ⟨hi, hp⟩
    repeat (first | (with_reducible first | refine Ju.go ?_ | (refine Hd.go ?_; intro K Q hK hQ; simp only [List.getD_cons_succ, List.getD_cons_zero, nod_imm, Try.underlying3, e_lss, e_cond, decide_eq_true_eq]; subst hK hQ) | refine Jr.go ?_) | refine sd ?_)
    by_cases hlt : i < a.length
    · have d : (i : Int) < b.length := by omega
      have d1 : (i : Int) < a.length := by omega
      by_cases he : a.getD i default = b.getD i default
      · repeat (first | (with_reducible first | refine Ju.go ?_ | (refine Hd.go ?_; intro K Q hK hQ; simp only [d, if_true, List.getD_cons_zero, nod_arr, nd_no, List.getD_cons_succ, nod_imm, ix_tb, dl, Int.toNat_natCast, he, true_and, nod_cptr, e_ldc, Try.underlying9, e_tne, decide_true, Bool.not_true, e_cond, Bool.false_eq_true, if_false, Try.underlying3, e_add]; subst hK hQ) | refine Jr.go ?_) | refine sd ?_)
        exact ⟨i + 1, ⟨by omega, eq_take a b default hlt (by omega) hp he⟩, rfl, rfl, by omega⟩
      · repeat (first | (with_reducible first | refine Ju.go ?_ | (refine Hd.go ?_; intro K Q hK hQ; simp only [d, if_true, List.getD_cons_zero, nod_arr, nd_no, List.getD_cons_succ, nod_imm, ix_tb, dl, Int.toNat_natCast, true_and, nod_cptr, e_ldc, Try.underlying9, e_tne, he, decide_false, Bool.not_false, e_cond]; subst hK hQ) | refine Jr.go ?_) | refine sd ?_)
        rw [decide_eq_false (ne_at a b default he)]
        exact end1 (fzI _)
    · have d : ¬ (i : Int) < b.length := by omega
      repeat (first | (with_reducible first | refine Ju.go ?_ | (refine Hd.go ?_; intro K Q hK hQ; simp only [d, if_false]; subst hK hQ) | refine Jr.go ?_) | refine sd ?_)
      rw [List.take_of_length_le (by omega), List.take_of_length_le (by omega)] at hp
      rw [decide_eq_true hp]
      exact end1 (fzI _)
  · have dl : ¬ (a.length : Int) = b.length := by omega
    repeat (first | (with_reducible first | refine Ju.go ?_ | (refine Hd.go ?_; intro K Q hK hQ; simp only [dl, not_false_eq_true, if_true]; subst hK hQ) | refine Jr.go ?_) | refine sd ?_)
    rw [decide_eq_false (fun h => hl (by rw [h]))]
    exact end1 (fzI _)
theorem c25 (a b : List ByteArray) (H : Hp) (ha : a.length ≤ 1000000000000) : Ret Try.prog 25 [.arr (a.map tb) .no, .arr (b.map tb) .no] H (B (decide (a = b))) H := by
  refine mk25 _ _ rfl (Nat.le_refl _) (.inl rfl) ?_
  simp only [vc25, real]
  repeat (first | (with_reducible first | refine Ju.go ?_ | (refine Hd.go ?_; intro K Q hK hQ; simp only [nod_arr, nd_no, e_lenA, List.length_map, nod_imm, Try.underlying3, e_neq, e_cond, Bool.not_eq_true', decide_eq_false_iff_not]; subst hK hQ) | refine Jr.go ?_) | refine sd ?_)
  by_cases hl : a.length = b.length
  · have dl : (a.length : Int) = b.length := by omega
    repeat (first | (with_reducible first | refine Ju.go ?_ | (refine Hd.go ?_; intro K Q hK hQ; simp only [dl, not_true_eq_false, if_false]; subst hK hQ) | refine Jr.go ?_) | refine sd ?_)
    refine loop_of (fun i : Nat => i ≤ a.length ∧ a.take i = b.take i) (fun i => [.arr (a.map tb) .no, .arr (b.map tb) .no, I i]) (fun _ => H) (fun i => a.length - i) 0 ⟨Nat.zero_le _, rfl⟩ rfl rfl ?_
    intro i ⟨hi, hp⟩
    repeat (first | (with_reducible first | refine Ju.go ?_ | (refine Hd.go ?_; intro K Q hK hQ; simp only [List.getD_cons_zero, nod_arr, nd_no, e_lenA, List.length_map, List.getD_cons_succ, nod_imm, Try.underlying3, e_lss, e_cond, decide_eq_true_eq]; subst hK hQ) | refine Jr.go ?_) | refine sd ?_)
    by_cases hlt : i < a.length
    · have d : (i : Int) < b.length := by omega
      have d1 : (i : Int) < a.length := by omega
      by_cases he : a.getD i default = b.getD i default
      · repeat (first | (with_reducible first | refine Ju.go ?_ | (refine Hd.go ?_; intro K Q hK hQ; simp only [dl, d, if_true, List.getD_cons_zero, nod_arr, nd_no, List.getD_cons_succ, nod_imm, ix_tb, Int.toNat_natCast, he, true_and, nod_cptr, e_ldc, Try.underlying9, e_tne, decide_true, Bool.not_true, e_cond, Bool.false_eq_true, if_false, Try.underlying3, e_add]; subst hK hQ) | refine Jr.go ?_) | refine sd ?_)
        exact ⟨i + 1, ⟨by omega, eq_take a b default hlt (by omega) hp he⟩, rfl, rfl, by omega⟩
      · repeat (first | (with_reducible first | refine Ju.go ?_ | (refine Hd.go ?_; intro K Q hK hQ; simp only [dl, d, if_true, List.getD_cons_zero, nod_arr, nd_no, List.getD_cons_succ, nod_imm, ix_tb, Int.toNat_natCast, true_and, nod_cptr, e_ldc, Try.underlying9, e_tne, he, decide_false, Bool.not_false, e_cond]; subst hK hQ) | refine Jr.go ?_) | refine sd ?_)
        rw [decide_eq_false (ne_at a b default he)]
        exact end1 (fzI _)
    · have d : ¬ (i : Int) < b.length := by omega
      have d1 : ¬ (i : Int) < a.length := by omega
      repeat (first | (with_reducible first | refine Ju.go ?_ | (refine Hd.go ?_; intro K Q hK hQ; simp only [dl, d, if_false]; subst hK hQ) | refine Jr.go ?_) | refine sd ?_)
      rw [List.take_of_length_le (by omega), List.take_of_length_le (by omega)] at hp
      rw [decide_eq_true hp]
      exact end1 (fzI _)
  · have dl : ¬ (a.length : Int) = b.length := by omega
    repeat (first | (with_reducible first | refine Ju.go ?_ | (refine Hd.go ?_; intro K Q hK hQ; simp only [dl, not_false_eq_true, if_true]; subst hK hQ) | refine Jr.go ?_) | refine sd ?_)
    rw [decide_eq_false (fun h => hl (by rw [h]))]
    exact end1 (fzI _)
theorem c29 (a b : List Int) (H : Hp) (ha : a.length ≤ 1000000000000) : Ret Try.prog 29 [ints a .no, ints b .no] H (B (decide (a = b))) H := by
  refine mk29 _ _ rfl (Nat.le_refl _) (.inl rfl) ?_
  simp only [vc29, real]
  repeat (first | (with_reducible first | refine Ju.go ?_ | (refine Hd.go ?_; intro K Q hK hQ; simp only [nod_ints, nd_no, e_len, nod_imm, Try.underlying3, e_neq, e_cond, Bool.not_eq_true', decide_eq_false_iff_not]; subst hK hQ) | refine Jr.go ?_) | refine sd ?_)
  by_cases hl : a.length = b.length
  · have dl : (a.length : Int) = b.length := by omega
    repeat (first | (with_reducible first | refine Ju.go ?_ | (refine Hd.go ?_; intro K Q hK hQ; simp only [dl, not_true_eq_false, if_false]; subst hK hQ) | refine Jr.go ?_) | refine sd ?_)
    refine loop_of (fun i : Nat => i ≤ a.length ∧ a.take i = b.take i) (fun i => [ints a .no, ints b .no, I i]) (fun _ => H) (fun i => a.length - i) 0 ⟨Nat.zero_le _, rfl⟩ rfl rfl ?_
    intro i ⟨hi, hp⟩
    repeat (first | (with_reducible first | refine Ju.go ?_ | (refine Hd.go ?_; intro K Q hK hQ; simp only [List.getD_cons_zero, nod_ints, nd_no, e_len, List.getD_cons_succ, nod_imm, Try.underlying3, e_lss, e_cond, decide_eq_true_eq]; subst hK hQ) | refine Jr.go ?_) | refine sd ?_)
    by_cases hlt : i < a.length
    · have d : (i : Int) < b.length := by omega
      have d1 : (i : Int) < a.length := by omega
      by_cases he : a.getD i 0 = b.getD i 0
      · repeat (first | (with_reducible first | refine Ju.go ?_ | (refine Hd.go ?_; intro K Q hK hQ; simp only [dl, d, if_true, List.getD_cons_zero, nod_ints, nd_no, List.getD_cons_succ, nod_imm, e_ix, Int.toNat_natCast, he, true_and, nod_cptr, e_ldc, Try.underlying3, e_neq, decide_true, Bool.not_true, e_cond, Bool.false_eq_true, if_false, e_add]; subst hK hQ) | refine Jr.go ?_) | refine sd ?_)
        exact ⟨i + 1, ⟨by omega, eq_take a b 0 hlt (by omega) hp he⟩, rfl, rfl, by omega⟩
      · repeat (first | (with_reducible first | refine Ju.go ?_ | (refine Hd.go ?_; intro K Q hK hQ; simp only [dl, d, if_true, List.getD_cons_zero, nod_ints, nd_no, List.getD_cons_succ, nod_imm, e_ix, Int.toNat_natCast, true_and, nod_cptr, e_ldc, Try.underlying3, e_neq, he, decide_false, Bool.not_false, e_cond]; subst hK hQ) | refine Jr.go ?_) | refine sd ?_)
        rw [decide_eq_false (ne_at a b 0 he)]
        exact end1 (fzI _)
    · have d : ¬ (i : Int) < b.length := by omega
      have d1 : ¬ (i : Int) < a.length := by omega
      repeat (first | (with_reducible first | refine Ju.go ?_ | (refine Hd.go ?_; intro K Q hK hQ; simp only [dl, d, if_false]; subst hK hQ) | refine Jr.go ?_) | refine sd ?_)
      rw [List.take_of_length_le (by omega), List.take_of_length_le (by omega)] at hp
      rw [decide_eq_true hp]
      exact end1 (fzI _)
  · have dl : ¬ (a.length : Int) = b.length := by omega
    repeat (first | (with_reducible first | refine Ju.go ?_ | (refine Hd.go ?_; intro K Q hK hQ; simp only [dl, not_false_eq_true, if_true]; subst hK hQ) | refine Jr.go ?_) | refine sd ?_)
    rw [decide_eq_false (fun h => hl (by rw [h]))]
    exact end1 (fzI _)
theorem c60 (n t g k m : Int) (H : Hp) : Ret Try.prog 60 [asV n t g k, I m] H (asV m t g k) H := by
  refine mk60 _ _ rfl (Nat.le_refl _) (.inl rfl) ?_
  simp only [vc60, real]
  repeat (first | (with_reducible first | refine Ju.go ?_ | (refine Hd.go ?_; intro K Q hK hQ; simp only [nod_agg, List.map_cons, nodL_imm, List.map_nil, e_bx, okE_agg, lv_cons, List.length_nil, Nat.zero_add, Nat.reduceAdd, all_c, ck_I, all_n, Bool.and_self, and_true, cl_agg, true_and, hp_len, hp_len_cons, hp_assoc, hp_cons, hp_nil, nod_ptr, e_fa, Nat.add_zero, nod_imm, e_sc0, Nat.reduceLeDiff, stV_imm, okE_I, cl_imm, spl_0, spl_n, e_lA0, dr_0, tk_s, tk_0, e_sc1, stV_agg, e_rA1]; subst hK hQ) | refine Jr.go ?_) | refine sd ?_)
  exact end1G (.keep _ (bel_i4 _ _ _ _ _))
theorem ix_sy (l : List Sy) (f : Fl) (i : Int) {K : V → Prop} : aIx 7 (.arr (l.map syV) f) (I i) K = (0 ≤ i ∧ i < l.length ∧ K (.cptr (syV (l.getD i.toNat default)))) := e_ixE syV default (fun _ => rfl) l f i
def scE (l : List Sy) (n t g k : Int) : Int := if (l.all fun s => okAsk s n t g k) = true then (if 20000 < n then 4 else 0) else 2
theorem c57 (l : List Sy) (n t g k : Int) (H : Hp) (sm : ∀ s, s ∈ l → Sm s) (hl : l.length ≤ 10) : Ret Try.prog 57 [asV n t g k, .arr (l.map syV) .full] H (I (scE l n t g k)) H := by
  unfold scE
  refine mk57 _ _ rfl (Nat.le_refl _) (.inl rfl) ?_
  simp only [vc57, real]
  repeat (first | (with_reducible first | refine Ju.go ?_ | (refine Hd.go ?_; intro K Q hK hQ; simp only [nod_agg, List.map_cons, nodL_imm, List.map_nil, e_bxI, okE_agg, lv_cons, List.length_nil, Nat.zero_add, Nat.reduceAdd, all_c, ck_I, all_n, Bool.and_self, and_true, true_and, nod_arr, nd_full, e_lenA, List.length_map]; subst hK hQ) | refine Jr.go ?_) | refine sd ?_)
  refine loop_of (fun i : Nat => i ≤ l.length ∧ (l.take i).all (fun s => okAsk s n t g k) = true) (fun i => [.cptr (asV n t g k), .arr (l.map syV) .full, I l.length, I i]) (fun _ => H) (fun i => l.length - i) 0 ⟨Nat.zero_le _, rfl⟩ rfl rfl ?_
  intro i ⟨hi, hp⟩
  repeat (first | (with_reducible first | refine Ju.go ?_ | (refine Hd.go ?_; intro K Q hK hQ; simp only [List.getD_cons_succ, List.getD_cons_zero, nod_imm, Try.underlying3, e_lss, e_cond, decide_eq_true_eq]; subst hK hQ) | refine Jr.go ?_) | refine sd ?_)
  by_cases hlt : i < l.length
  · have d : (i : Int) < l.length := by omega
    have hbad : okAsk (l.getD i default) n t g k = false → (l.all fun s => okAsk s n t g k) = false := all_bad l default (fun s => okAsk s n t g k) hlt
    have hgood : okAsk (l.getD i default) n t g k = true → (l.take (i + 1)).all (fun s => okAsk s n t g k) = true := fun h => by rw [all_take l default _ hlt, hp, h]; rfl
    have hs := sm _ (getD_memA l default hlt)
    repeat (first | (with_reducible first | refine Ju.go ?_ | (refine Hd.go ?_; intro K Q hK hQ; simp only [d, if_true, List.getD_cons_succ, List.getD_cons_zero, nod_arr, nd_full, nod_imm, ix_sy, Int.toNat_natCast, true_and, nod_cptr, e_ldcA, lv_cons, List.length_nil, Nat.zero_add, Nat.reduceAdd, nod_agg, List.map_cons, nodL_imm, nodL_arr, nd_no, List.map_nil, e_bxI, okE_agg, all_c, ck_I, ck_arr, all_n, Bool.and_self, and_true]; subst hK hQ) | refine Jr.go ?_) | refine sd ?_)
    generalize l.getD i default = s at *
    refine call_of (c51 s n t g k _ hs) ?_
    cases ho : okAsk s n t g k
    · rw [if_neg (by decide)]
      repeat (first | (with_reducible first | refine Ju.go ?_ | (refine Hd.go ?_; intro K Q hK hQ; simp only [nod_imm, Try.underlying29, e_neq, Int.reduceEq, decide_false, Bool.not_false, e_cond, if_true]; subst hK hQ) | refine Jr.go ?_) | refine sd ?_)
      rw [hbad ho]
      exact end1 (fzI _)
    · rw [if_pos rfl]
      repeat (first | (with_reducible first | refine Ju.go ?_ | (refine Hd.go ?_; intro K Q hK hQ; simp only [nod_imm, Try.underlying29, e_neq, decide_true, Bool.not_true, e_cond, Bool.false_eq_true, if_false, List.getD_cons_succ, List.getD_cons_zero, Try.underlying3, e_add]; subst hK hQ) | refine Jr.go ?_) | refine sd ?_)
      exact ⟨i + 1, ⟨by omega, hgood ho⟩, rfl, rfl, by omega⟩
  · have d : ¬ (i : Int) < l.length := by omega
    repeat (first | (with_reducible first | refine Ju.go ?_ | (refine Hd.go ?_; intro K Q hK hQ; simp only [d, if_false, List.getD_cons_zero, nod_cptr, e_fac, Nat.zero_add, lv_cons, List.length_nil, Nat.reduceAdd, Nat.reduceLeDiff, true_and, e_ldc, nod_imm, Try.underlying3, e_gtr, e_cond, decide_eq_true_eq]; subst hK hQ) | refine Jr.go ?_) | refine sd ?_)
    rw [List.take_of_length_le (by omega)] at hp
    rw [hp, if_pos rfl]
    by_cases h2 : 20000 < n
    · repeat (first | (with_reducible first | refine Ju.go ?_ | (refine Hd.go ?_; intro K Q hK hQ; simp only [h2, if_true]; subst hK hQ) | refine Jr.go ?_) | refine sd ?_)
      rw [if_pos h2]
      exact end1 (fzI _)
    · repeat (first | (with_reducible first | refine Ju.go ?_ | (refine Hd.go ?_; intro K Q hK hQ; simp only [h2, if_false]; subst hK hQ) | refine Jr.go ?_) | refine sd ?_)
      rw [if_neg h2]
      exact end1 (fzI _)
end Go.Proofs.Ytgodfjbmblghnaa


set_option linter.unusedVariables false
set_option linter.unusedSimpArgs false
set_option linter.unnecessarySimpa false
set_option maxRecDepth 20000
set_option maxHeartbeats 2000000
namespace Go.Proofs.Ytgodfjbmblghnaa
open Go Go.Ab Go.Proofs
attribute [local congr] g_bin g_nilS g_nilP g_un g_ext g_bx g_fa g_ld g_st g_ix g_ixA g_slc g_mk g_bs g_bd g_nc g_cv g_len g_lenT g_app g_appB g_cpy g_mm g_call g_callG g_calm g_calmG g_range g_res g_pick g_cond g_loop g_Jv g_eqS g_eqP g_fd g_ixT g_ta g_lkp g_upd g_mkM g_appS g_inv g_callE g_callEG g_invE g_zr g_wr
def isR (s : Sy) (t g k : Int) (l : List ByteArray) (m : Int) : Bool := (saW s m t g k).all gdW && decide ((trW s m t g k).map Sd.x = l)
def rdL (s : Sy) (n t g k : Int) (l : List ByteArray) : List Int := ((List.range (n.toNat + 1)).map Int.ofNat).filter (isR s t g k l)
theorem c59 (s : Sy) (n t g k m : Int) (l : List ByteArray) (H : Hp) (sm : Sm s) (hok : okAsk s m t g k = true) :
    Ret Try.prog 59 [I m, .cptr (syV s), .cptr (asV n t g k), .cptr (.arr (l.map tb) .no)] H (.tup [I m, B (isR s t g k l m)]) H := by
  unfold isR
  have hlen := trW_len sm hok
  refine mk59 _ _ _ _ rfl (Nat.le_refl _) (.inl rfl) ?_
  simp only [vc59, real]
  repeat (first | (with_reducible first | refine Ju.go ?_ | (refine Hd.go ?_; intro K Q hK hQ; simp only [nod_cptr, e_ldcA, lv_cons, List.length_nil, Nat.zero_add, Nat.reduceAdd, true_and, nod_agg, List.map_cons, nodL_imm, nodL_arr, nd_no, List.map_nil, e_bd1, okE_agg, all_c, ck_I, ck_arr, all_n, Bool.and_self, and_true, Nat.reduceLeDiff, cl_agg, spl_0, spl_n, e_bd0, nod_imm]; subst hK hQ) | refine Jr.go ?_) | refine sd ?_)
  refine calm_of (fun H => c60 n t g k m H) ?_
  repeat (first | (with_reducible first | refine Ju.go ?_ | (refine Hd.go ?_; intro K Q hK hQ; simp only [nod_agg, List.map_cons, nodL_imm, nodL_arr, nd_no, List.map_nil]; subst hK hQ) | refine Jr.go ?_) | refine sd ?_)
  refine call_ofD (c52 s m t g k _ sm hok) ?_
  rw [tx_tb]
  repeat (first | (with_reducible first | refine Ju.go ?_ | (refine Hd.go ?_; intro K Q hK hQ; simp only [nod_tup, List.map_cons, nod2_arr, nd_no, nod2_imm, List.map_nil, e_x20, e_x21, List.getD_cons_succ, List.getD_cons_zero, nod_imm, nod_cptr, nod_arr, e_ldcV, e_gT]; subst hK hQ) | refine Jr.go ?_) | refine sd ?_)
  cases (saW s m t g k).all gdW
  · repeat (first | (with_reducible first | refine Ju.go ?_ | (refine Hd.go ?_; intro K Q hK hQ; simp only [cond_false]; subst hK hQ) | refine Jr.go ?_) | refine sd ?_)
    exact end2 rfl rfl (fzI _) (fzI _)
  · repeat (first | (with_reducible first | refine Ju.go ?_ | (refine Hd.go ?_; intro K Q hK hQ; simp only [cond_true]; subst hK hQ) | refine Jr.go ?_) | refine sd ?_)
    refine call_of (c61 _ l _ (by rw [List.length_map]; omega)) ?_
    repeat (first | (with_reducible first | refine Ju.go ?_ | (refine Hd.go ?_; intro K Q hK hQ; simp only [nod_imm]; subst hK hQ) | refine Jr.go ?_) | refine sd ?_)
    exact end2 rfl rfl (fzI _) (fzI _)
theorem okAsk_le {s : Sy} {n t g k m : Int} (h : okAsk s n t g k = true) (h0 : 0 ≤ m) (h1 : m ≤ n) : okAsk s m t g k = true := by
  unfold okAsk at h ⊢
  simp only [Bool.and_eq_true, inB_iff] at h ⊢
  refine ⟨⟨⟨⟨h.1.1.1.1, ?_⟩, h.1.1.2⟩, h.1.2⟩, h.2⟩
  have := h.1.1.1.2
  omega
theorem rd_snoc (s : Sy) (t g k : Int) (l : List ByteArray) (i : Nat) : ((List.range (i + 1)).map Int.ofNat).filter (isR s t g k l) = ((List.range i).map Int.ofNat).filter (isR s t g k l) ++ (if isR s t g k l i = true then [(i : Int)] else []) := by
  rw [List.range_succ, List.map_append, List.filter_append]
  congr 1
  show List.filter _ [(i : Int)] = _
  rw [List.filter_cons]
  rfl
theorem rd_len (s : Sy) (t g k : Int) (l : List ByteArray) (i : Nat) : (((List.range i).map Int.ofNat).filter (isR s t g k l)).length ≤ i := by
  refine Nat.le_trans (List.length_filter_le _ _) ?_
  simp
theorem c58 (s : Sy) (n t g k : Int) (l : List ByteArray) (H : Hp) (sm : Sm s) (hok : okAsk s n t g k = true) (hn : 0 ≤ n) (h2 : n ≤ 20000) :
    Ret Try.prog 58 [I n, .fn 59 [.cptr (syV s), .cptr (asV n t g k), .cptr (.arr (l.map tb) .no)]] H (ints (rdL s n t g k l) .no) H := by
  have en : ((n.toNat : Nat) : Int) = n := by omega
  refine mk58 _ _ rfl (Nat.le_refl _) (.inl rfl) ?_
  simp only [vc58, real]
  repeat (first | (with_reducible first | refine Ju.go ?_ | (refine Hd.go ?_; intro K Q hK hQ; simp only [nod_imm, Try.underlying3, e_add]; subst hK hQ) | refine Jr.go ?_) | refine sd ?_)
  refine loop_of (fun z : Nat × Fl => z.1 ≤ n.toNat + 1 ∧ z.2.ap = true) (fun z => [.fn 59 [.cptr (syV s), .cptr (asV n t g k), .cptr (.arr (l.map tb) .no)], ints (((List.range z.1).map Int.ofNat).filter (isR s t g k l)) z.2, I (n + 1), I z.1]) (fun _ => H) (fun z => n.toNat + 1 - z.1) (0, .full) ⟨Nat.zero_le _, rfl⟩ rfl rfl ?_
  intro ⟨i, f⟩ ⟨hi, hf⟩
  dsimp only at hi hf ⊢
  repeat (first | (with_reducible first | refine Ju.go ?_ | (refine Hd.go ?_; intro K Q hK hQ; simp only [List.getD_cons_succ, List.getD_cons_zero, nod_imm, Try.underlying3, e_lss, e_cond, decide_eq_true_eq]; subst hK hQ) | refine Jr.go ?_) | refine sd ?_)
  by_cases hlt : i < n.toNat + 1
  · have d : (i : Int) < n + 1 := by omega
    have hs := rd_snoc s t g k l i
    have hl := rd_len s t g k l i
    repeat (first | (with_reducible first | refine Ju.go ?_ | (refine Hd.go ?_; intro K Q hK hQ; simp only [d, if_true, List.getD_cons_zero, nod_fn, List.getD_cons_succ, nod_imm, e_callEG]; subst hK hQ) | refine Jr.go ?_) | refine sd ?_)
    refine call_of (c59 s n t g k i l _ sm (okAsk_le hok (by omega) (by omega))) ?_
    cases hr : isR s t g k l i
    · rw [hr] at hs
      repeat (first | (with_reducible first | refine Ju.go ?_ | (refine Hd.go ?_; intro K Q hK hQ; simp only [nod_tup, List.map_cons, nod2_imm, List.map_nil, e_x20, e_x21, List.getD_cons_zero, List.getD_cons_succ, nod_imm, e_cond, Bool.false_eq_true, if_false, Try.underlying3, e_add]; subst hK hQ) | refine Jr.go ?_) | refine sd ?_)
      exact ⟨(i + 1, f), ⟨by dsimp only; omega, hf⟩, by dsimp only; rw [hs]; simp; rfl, rfl, by dsimp only; omega⟩
    · rw [hr] at hs
      repeat (first | (with_reducible first | refine Ju.go ?_ | (refine Hd.go ?_; intro K Q hK hQ; simp only [nod_tup, List.map_cons, nod2_imm, List.map_nil, e_x20, e_x21, List.getD_cons_zero, List.getD_cons_succ, nod_imm, e_cond, if_true, bs1, nod_ints, nd_full, e_app, hf, true_and, Try.underlying3, e_add]; subst hK hQ) | refine Jr.go ?_) | refine sd ?_)
      exact ⟨(i + 1, .own), ⟨by dsimp only; omega, rfl⟩, by dsimp only; rw [hs]; rfl, rfl, by dsimp only; omega⟩
  · have d : ¬ (i : Int) < n + 1 := by omega
    obtain rfl : i = n.toNat + 1 := by omega
    repeat (first | (with_reducible first | refine Ju.go ?_ | (refine Hd.go ?_; intro K Q hK hQ; simp only [d, if_false]; subst hK hQ) | refine Jr.go ?_) | refine sd ?_)
    have : (((List.range (n.toNat + 1)).map Int.ofNat).filter (isR s t g k l)) = rdL s n t g k l := rfl
    rw [this]
    cases f
    · exact end1 (.keep _ (bel_ints _ _ _))
    · exact end1 (.keep _ (bel_ints _ _ _))
    · exact end1 (.full _ (bel_ints _ _ _))
def rdE (s : Sy) (n t g k : Int) (l : List ByteArray) : Int := if scE [s] n t g k ≠ 0 then scE [s] n t g k else if rdL s n t g k l = [] then 5 else 0
def rdR (s : Sy) (n t g k : Int) (l : List ByteArray) : List Int := if scE [s] n t g k ≠ 0 then [] else rdL s n t g k l
theorem scE_0 {s : Sy} {n t g k : Int} (h : scE [s] n t g k = 0) : okAsk s n t g k = true ∧ 0 ≤ n ∧ n ≤ 20000 := by
  unfold scE at h
  simp only [List.all_cons, List.all_nil, Bool.and_true] at h
  split at h
  · rename_i ho
    split at h
    · omega
    · refine ⟨ho, ?_, by omega⟩
      unfold okAsk at ho
      simp only [Bool.and_eq_true, inB_iff] at ho
      exact ho.1.1.1.2.1
  · omega
theorem bs1Y (s : Sy) (z : V) (K : V → Prop) : aBS 7 1 z [(0, syV s)] K = K (.arr [syV s] .full) := by
  simp [aBS, aPs, setP, okE, V.cl, cellOk]
  exact fun _ => ⟨rfl, rfl, rfl, rfl⟩
theorem c27 (s : Sy) (n t g k : Int) (l : List ByteArray) (H : Hp) (sm : Sm s) : Ret Try.prog 27 [syV s, asV n t g k, .arr (l.map tb) .no] H (.tup [ints (rdR s n t g k l) .no, I (rdE s n t g k l)]) H := by
  unfold rdR rdE
  refine mk27 _ _ _ rfl (Nat.le_refl _) (.inl rfl) ?_
  simp only [vc27, real]
  repeat (first | (with_reducible first | refine Ju.go ?_ | (refine Hd.go ?_; intro K Q hK hQ; simp only [nod_agg, List.map_cons, nodL_imm, nodL_arr, nd_no, List.map_nil, e_bxI, okE_agg, lv_cons, List.length_nil, Nat.zero_add, Nat.reduceAdd, all_c, ck_I, ck_arr, all_n, Bool.and_self, and_true, true_and, nod_arr, okE_arr, nod_cptr, e_ldcA, bs1Y, nd_full]; subst hK hQ) | refine Jr.go ?_) | refine sd ?_)
  refine call_of (c57 [s] n t g k _ (fun x hx => by simp only [List.mem_singleton] at hx; subst hx; exact sm) (by simp)) ?_
  by_cases he : scE [s] n t g k = 0
  · obtain ⟨ho, n0, n2⟩ := scE_0 he
    rw [if_neg (fun h => h he), if_neg (fun h => h he)]
    repeat (first | (with_reducible first | refine Ju.go ?_ | (refine Hd.go ?_; intro K Q hK hQ; simp only [he, nod_imm, Try.underlying29, e_neq, decide_true, Bool.not_true, List.getD_cons_succ, List.getD_cons_zero, e_cond, Bool.false_eq_true, if_false, nod_cptr, e_fac, Nat.zero_add, lv_cons, List.length_nil, Nat.reduceAdd, Nat.reduceLeDiff, true_and, e_ldc]; subst hK hQ) | refine Jr.go ?_) | refine sd ?_)
    refine call_of (c58 s n t g k l _ sm ho n0 n2) ?_
    repeat (first | (with_reducible first | refine Ju.go ?_ | (refine Hd.go ?_; intro K Q hK hQ; simp only [nod_ints, nd_no, e_len, nod_imm, Try.underlying3, e_eql, e_cond, decide_eq_true_eq]; subst hK hQ) | refine Jr.go ?_) | refine sd ?_)
    by_cases hz : rdL s n t g k l = []
    · rw [hz, if_pos rfl]
      repeat (first | (with_reducible first | refine Ju.go ?_ | (refine Hd.go ?_; intro K Q hK hQ; simp only [List.length_nil, Int.cast_ofNat_Int, if_true]; subst hK hQ) | refine Jr.go ?_) | refine sd ?_)
      exact end2 rfl rfl (.full [] (bel_ints _ [] .full)) (fzI _)
    · have hz2 : ¬ ((rdL s n t g k l).length : Int) = 0 := by
        have := List.length_pos_iff.2 hz
        omega
      rw [if_neg hz]
      repeat (first | (with_reducible first | refine Ju.go ?_ | (refine Hd.go ?_; intro K Q hK hQ; simp only [hz2, if_false]; subst hK hQ) | refine Jr.go ?_) | refine sd ?_)
      exact end2 rfl rfl (.keep _ (bel_ints _ _ _)) (fzI _)
  · rw [if_pos he, if_pos he]
    repeat (first | (with_reducible first | refine Ju.go ?_ | (refine Hd.go ?_; intro K Q hK hQ; simp only [nod_imm, Try.underlying29, e_neq, he, decide_false, Bool.not_false, List.getD_cons_succ, List.getD_cons_zero, e_cond, if_true]; subst hK hQ) | refine Jr.go ?_) | refine sd ?_)
    exact end2 rfl rfl (.full [] (bel_ints _ [] .full)) (fzI _)
end Go.Proofs.Ytgodfjbmblghnaa

set_option linter.unusedVariables false
set_option maxRecDepth 20000
set_option maxHeartbeats 4000000
namespace Go.Proofs.Ytgodfjbmblghnaa
open Go Go.Ab Go.Proofs
def an15 : An := { imm := [1, 33, 67, 71, 80], jn := [(3, [1, 2, 3]), (5, [1, 2, 3, 4, 5, 6, 7]), (7, [2, 3, 4, 5, 6, 7, 8, 9, 10, 11]), (8, [2, 4, 6, 8, 10, 65])], lp := [], loud := [], ord := [] }
def vc15 (C : Cb) (H : Hp) (R : List V → Hp → Prop) : Prop :=
 C.callE 41 [] H fun v1 H2 =>
 C.aBx true 7 v1.nod H2 fun v3 H4 =>
 Jn (fun l5 H6 =>
 C.aLd 7 true false (l5.getD 0 .junk).nod H6 fun v8 H9 =>
 C.aBd [(I 0), (I 0), (I 0), (I 0)] [(0, 1, (I 105))] fun v10 =>
 C.callE 20 [v8.nod, v10.nod] H9 fun v11 H12 =>
 C.aExt 0 v11.nod.nod fun v13 =>
 C.aExt 1 v11.nod.nod fun v14 =>
 Jn (fun l15 H16 =>
 C.aLd 7 true false (l15.getD 0 .junk).nod H16 fun v18 H19 =>
 C.aBd [(I 0), (I 0), (I 0), (I 0)] [(0, 1, (I 99))] fun v20 =>
 C.aBS 1 2 (V.imm (.string (ByteArray.mk #[]))) [(0, (V.imm (.string (ByteArray.mk #[116, 104, 114, 101, 101])))), (1, (V.imm (.string (ByteArray.mk #[116, 121]))))] fun v21 =>
 C.callE 27 [v18.nod, v20.nod, (noV v21).nod] H19 fun v22 H23 =>
 C.aExt 0 v22.nod.nod fun v24 =>
 C.aExt 1 v22.nod.nod fun v25 =>
 Jn (fun l26 H27 =>
 Jn (fun l29 H30 =>
 aCond (l29.getD 5 .junk).nod (
 R [(B false)] H30) (
 C.aBS 1 5 (V.imm (.string (ByteArray.mk #[]))) [(0, (V.imm (.string (ByteArray.mk #[116, 119, 111])))), (1, (V.imm (.string (ByteArray.mk #[104, 117, 110, 100, 114, 101, 100, 115])))), (2, (V.imm (.string (ByteArray.mk #[102, 111, 117, 114])))), (3, (V.imm (.string (ByteArray.mk #[116, 121])))), (4, (V.imm (.string (ByteArray.mk #[116, 119, 111]))))] fun v32 =>
 C.callE 25 [(l29.getD 0 .junk).nod.nod, (noV v32).nod] H30 fun v33 H34 =>
 Jv (fun v35 H36 =>
 Jv (fun v41 H42 =>
 Jv (fun v45 H46 =>
 Jv (fun v51 H52 =>
 Jv (fun v59 H60 =>
 R [v59] H60)
 (fun R61 =>
 aG v51.nod true (
 C.aIx 6 (l29.getD 4 .junk).nod.nod (I 1) fun v62 =>
 C.aLd 6 true false v62.nod H52 fun v63 H64 =>
 C.aBd [(V.imm (.string (ByteArray.mk #[]))), (I 0), (I 0), (I 0), (I 0), (I 0)] [(0, 1, (V.imm (.string (ByteArray.mk #[116, 121])))), (1, 1, (I 30)), (3, 1, (I 10)), (4, 1, (I 1))] fun v65 =>
 C.aEqS 50 .eql v63.nod v65.nod fun v66 =>
 R61 v66.nod H64) (
 R61 (B false) H52)))
 (fun R53 =>
 aG v45.nod true (
 C.aIx 6 (l29.getD 4 .junk).nod.nod (I 0) fun v54 =>
 C.aLd 6 true false v54.nod H46 fun v55 H56 =>
 C.aBd [(V.imm (.string (ByteArray.mk #[]))), (I 0), (I 0), (I 0), (I 0), (I 0)] [(0, 1, (V.imm (.string (ByteArray.mk #[116, 104, 114, 101, 101])))), (1, 1, (I 3)), (3, 1, (I 3)), (5, 1, (I 1))] fun v57 =>
 C.aEqS 50 .eql v55.nod v57.nod fun v58 =>
 R53 v58.nod H56) (
 R53 (B false) H46)))
 (fun R47 =>
 aG v41.nod true (
 C.aBS 1 1 (I 0) [(0, (I 30))] fun v48 =>
 C.callE 29 [(l29.getD 3 .junk).nod.nod, (noV v48).nod] H42 fun v49 H50 =>
 R47 v49.nod H50) (
 R47 (B false) H42)))
 (fun R43 =>
 aG v35.nod true (
 C.aBin (Try.prog.underlying 3) .eql (l29.getD 2 .junk).nod.nod (I 1) fun v44 =>
 R43 v44.nod H36) (
 R43 (B false) H36)))
 (fun R37 =>
 aG v33.nod true (
 C.aBS 1 4 (V.imm (.string (ByteArray.mk #[]))) [(0, (V.imm (.string (ByteArray.mk #[111, 110, 101])))), (1, (V.imm (.string (ByteArray.mk #[104, 117, 110, 100, 114, 101, 100])))), (2, (V.imm (.string (ByteArray.mk #[97, 110, 100])))), (3, (V.imm (.string (ByteArray.mk #[102, 105, 118, 101]))))] fun v38 =>
 C.callE 25 [(l29.getD 1 .junk).nod.nod, (noV v38).nod] H34 fun v39 H40 =>
 R37 v39.nod H40) (
 R37 (B false) H34))))
 (fun R31 =>
 C.aBin (Try.prog.underlying 29) .neq (l26.getD 1 .junk).nod.nod (I 0) fun v67 =>
 Jv (fun v68 H69 =>
 Jv (fun v72 H73 =>
 Jv (fun v76 H77 =>
 Jv (fun v80 H81 =>
 Jv (fun v84 H85 =>
 R31 [(l26.getD 0 .junk), (l26.getD 2 .junk), (l26.getD 4 .junk), (l26.getD 6 .junk), (l26.getD 8 .junk), v84] H85)
 (fun R86 =>
 aG v80.nod false (
 C.aLen (l26.getD 8 .junk).nod.nod fun v87 =>
 C.aBin (Try.prog.underlying 3) .neq v87.nod (I 2) fun v88 =>
 R86 v88.nod H81) (
 R86 (B true) H81)))
 (fun R82 =>
 aG v76.nod false (
 C.aBin (Try.prog.underlying 29) .neq (l26.getD 9 .junk).nod.nod (I 0) fun v83 =>
 R82 v83.nod H77) (
 R82 (B true) H77)))
 (fun R78 =>
 aG v72.nod false (
 C.aBin (Try.prog.underlying 29) .neq (l26.getD 7 .junk).nod.nod (I 0) fun v79 =>
 R78 v79.nod H73) (
 R78 (B true) H73)))
 (fun R74 =>
 aG v68.nod false (
 C.aBin (Try.prog.underlying 29) .neq (l26.getD 5 .junk).nod.nod (I 0) fun v75 =>
 R74 v75.nod H69) (
 R74 (B true) H69)))
 (fun R70 =>
 aG v67.nod false (
 C.aBin (Try.prog.underlying 29) .neq (l26.getD 3 .junk).nod.nod (I 0) fun v71 =>
 R70 v71.nod H27) (
 R70 (B true) H27))))
 (fun R28 =>
 C.aLd 7 true false (l15.getD 0 .junk).nod H23 fun v89 H90 =>
 C.aBd [(I 0), (I 0), (I 0), (I 0)] [(0, 1, (I 30))] fun v91 =>
 C.callE 21 [v89.nod, v91.nod] H90 fun v92 H93 =>
 C.aExt 0 v92.nod.nod fun v94 =>
 C.aExt 1 v92.nod.nod fun v95 =>
 R28 [(l15.getD 1 .junk), (l15.getD 2 .junk), (l15.getD 3 .junk), (l15.getD 4 .junk), (l15.getD 5 .junk), (l15.getD 6 .junk), v24, v25, v94, v95] H93))
 (fun R17 =>
 C.aLd 7 true false (l5.getD 0 .junk).nod H12 fun v96 H97 =>
 C.callE 16 [v96.nod, (I 1000001)] H97 fun v98 H99 =>
 C.aExt 0 v98.nod.nod fun v100 =>
 C.aExt 1 v98.nod.nod fun v101 =>
 R17 [(l5.getD 0 .junk), (l5.getD 1 .junk), (l5.getD 2 .junk), v13, v14, v100, v101] H99))
 (fun R7 =>
 C.aLd 7 true false v3.nod H4 fun v102 H103 =>
 C.aBd [(I 0), (I 0), (I 0), (I 0)] [(0, 1, (I 242))] fun v104 =>
 C.callE 20 [v102.nod, v104.nod] H103 fun v105 H106 =>
 C.aExt 0 v105.nod.nod fun v107 =>
 C.aExt 1 v105.nod.nod fun v108 =>
 R7 [v3, v107, v108] H106)
theorem wf15 : (Nat.ble 0 Try.f15.ntmps && wfC an15 Try.f15.ntmps (Try.f15.body.getD .skip)) = true := by kernel_rfl
theorem tie15 (C : Cb) (H : Hp) (R : List V → Hp → Prop) : wpG Try.prog C an15 (Try.f15.body.getD .skip) (argF []) H (retG Try.prog C Try.f15 R) (fun _ _ _ => False) (retG Try.prog C Try.f15 R) = vc15 C H R := by kernel_rfl
theorem mk15 {H : Hp} {v : V} {H1 : Hp} (hd : v.Nd) (hn : H.length ≤ H1.length) (hb : H1 = H ∨ ∀ (b : Nat) (blk : Blk), H1[b]? = some blk → H[b]? = some blk ∨ BelB H1.length blk) (h : vc15 (real Try.prog) H (retF v H1)) : Ret Try.prog 15 [] H v H1 :=
  ret_mk (an := an15) hm Try.call15 Try.func15 rfl wf15 hd hn hb (Eq.mpr (tie15 (real Try.prog) H (retF v H1)) h)
def an41 : An := { imm := [5, 7, 22, 24, 33, 35, 41, 44, 46, 53, 55, 62, 64, 67], jn := [(6, [0, 1, 2, 3, 4]), (8, [0, 1, 2, 3, 4]), (11, [0, 2, 3]), (13, [0, 2, 3])], lp := [(5, [0, 1, 2, 3, 4])], loud := [], ord := [] }
def vc41 (C : Cb) (H : Hp) (R : List V → Hp → Prop) : Prop :=
 C.aBx false 7 (V.agg [(I 0), (I 0), (I 0), (I 0), (V.arr [] .full), (V.arr [] .full), (V.arr [] .full)]) H fun v1 H2 =>
 C.aBS 1 12 (V.imm (.string (ByteArray.mk #[]))) [(0, (V.imm (.string (ByteArray.mk #[122, 101, 114, 111])))), (1, (V.imm (.string (ByteArray.mk #[111, 110, 101])))), (2, (V.imm (.string (ByteArray.mk #[116, 119, 111])))), (3, (V.imm (.string (ByteArray.mk #[116, 104, 114, 101, 101])))), (4, (V.imm (.string (ByteArray.mk #[102, 111, 117, 114])))), (5, (V.imm (.string (ByteArray.mk #[102, 105, 118, 101])))), (6, (V.imm (.string (ByteArray.mk #[115, 105, 120])))), (7, (V.imm (.string (ByteArray.mk #[115, 101, 118, 101, 110])))), (8, (V.imm (.string (ByteArray.mk #[101, 105, 103, 104, 116])))), (9, (V.imm (.string (ByteArray.mk #[110, 105, 110, 101])))), (10, (V.imm (.string (ByteArray.mk #[116, 101, 101, 110])))), (11, (V.imm (.string (ByteArray.mk #[116, 121]))))] fun v3 =>
 C.aBd [(I 0), (I 0), (I 0), (I 0)] [(0, 1, (I 1000000)), (1, 1, (I 1)), (2, 1, (I 1)), (3, 1, (I 1))] fun v4 =>
 C.aBS 4 1 (V.agg [(I 0), (I 0), (I 0), (I 0)]) [(0, v4.nod)] fun v5 =>
 C.aBd [(I 0), (I 0), (I 0), (I 0), (V.arr [] .full), (V.arr [] .full), (V.arr [] .full)] [(0, 1, (I 999)), (1, 1, (I 1)), (2, 1, (I 1)), (3, 1, (I 2)), (5, 1, (noV v5).nod.nod)] fun v6 =>
 C.aBx false 7 (V.agg [(I 0), (I 0), (I 0), (I 0), (V.arr [] .full), (V.arr [] .full), (V.arr [] .full)]) H2 fun v7 H8 =>
 C.aSt 7 v7.nod v6 H8 fun v9 H10 =>
 LoopA (fun l11 H12 K13 =>
 C.aLen (l11.getD 1 .junk).nod.nod fun v14 =>
 C.aBin (Try.prog.underlying 3) .lss (l11.getD 4 .junk).nod.nod v14.nod fun v15 =>
 aCond v15.nod (
 Jn (fun l16 H17 =>
 C.aBin (Try.prog.underlying 3) .add (l16.getD 4 .junk).nod.nod (I 1) fun v19 =>
 K13 [(l16.getD 0 .junk), (l16.getD 1 .junk), (l16.getD 2 .junk), (l16.getD 3 .junk), v19] H17)
 (fun R18 =>
 Jn (fun l20 H21 =>
 C.aBin (Try.prog.underlying 3) .lss (l20.getD 4 .junk).nod.nod (I 10) fun v23 =>
 aCond v23.nod (
 C.aBd [(I 0), (I 0), (I 0), (I 0)] [(0, 1, (I 1)), (1, 1, (l20.getD 4 .junk).nod.nod.nod)] fun v24 =>
 C.aBS 4 1 (V.agg [(I 0), (I 0), (I 0), (I 0)]) [(0, v24.nod)] fun v25 =>
 C.aBd [(I 0), (I 0), (V.arr [] .full)] [(0, 1, (l20.getD 4 .junk).nod.nod), (2, 1, (noV v25).nod.nod)] fun v26 =>
 C.aBS 3 1 (V.agg [(I 0), (I 0), (V.arr [] .full)]) [(0, (own0 v26 (l20.getD 4 .junk).nod).nod)] fun v27 =>
 C.aApp 3 40 (l20.getD 3 .junk) (noV v27).nod fun v28 =>
 R18 [(l20.getD 0 .junk), (l20.getD 1 .junk), (l20.getD 2 .junk), v28, (l20.getD 4 .junk)] H21) (
 R18 [(l20.getD 0 .junk), (l20.getD 1 .junk), (l20.getD 2 .junk), (l20.getD 3 .junk), (l20.getD 4 .junk)] H21))
 (fun R22 =>
 C.aFA 4 1 false (l11.getD 2 .junk).nod fun v29 =>
 C.aLd 1 false true v29.nod H12 fun v30 H31 =>
 C.aIx 1 (l11.getD 1 .junk).nod.nod (l11.getD 4 .junk).nod.nod fun v32 =>
 C.aLd 1 false false v32.nod H31 fun v33 H34 =>
 C.aBd [(I 0), (I 0), (I 0), (V.imm (.string (ByteArray.mk #[])))] [(0, 1, (I (-1))), (1, 1, (I (-1))), (2, 1, (I (-1))), (3, 1, v33.nod.nod)] fun v35 =>
 C.aBS 4 1 (V.agg [(I 0), (I 0), (I 0), (V.imm (.string (ByteArray.mk #[])))]) [(0, v35.nod)] fun v36 =>
 C.aBd [(I 0), (V.arr [] .full)] [(1, 1, (noV v36).nod.nod)] fun v37 =>
 C.aBS 2 1 (V.agg [(I 0), (V.arr [] .full)]) [(0, v37.nod)] fun v38 =>
 C.aApp 2 32 v30 (noV v38).nod fun v39 =>
 C.aFA 4 1 false (l11.getD 2 .junk).nod fun v40 =>
 C.aSt 1 v40.nod v39 H34 fun v41 H42 =>
 R22 [(l11.getD 0 .junk), (l11.getD 1 .junk), (l11.getD 2 .junk), (l11.getD 3 .junk), (l11.getD 4 .junk)] H42))) (
 Jn (fun l43 H44 =>
 C.aBd [(I 0), (I 0), (I 0), (I 0)] [(0, 1, (I 3))] fun v46 =>
 C.aBd [(I 0), (I 0), (I 0), (I 0)] [(0, 1, (I 1)), (1, 1, (I 11))] fun v47 =>
 C.aBd [(I 0), (I 0), (I 0), (I 0)] [(0, 1, (I 4))] fun v48 =>
 C.aBS 4 3 (V.agg [(I 0), (I 0), (I 0), (I 0)]) [(0, v46.nod), (1, v47.nod), (2, v48.nod)] fun v49 =>
 C.aBd [(I 0), (I 0), (V.arr [] .full)] [(0, 1, (I 10)), (1, 1, (I 10)), (2, 1, (noV v49).nod.nod)] fun v50 =>
 C.aBS 3 1 (V.agg [(I 0), (I 0), (V.arr [] .full)]) [(0, v50.nod)] fun v51 =>
 C.aApp 3 40 (l43.getD 2 .junk) (noV v51).nod fun v52 =>
 Jn (fun l53 H54 =>
 C.aBS 1 1 (V.arr [] .full) [(0, (l53.getD 2 .junk).nod.nod)] fun v56 =>
 C.aFA 6 1 false (l53.getD 1 .junk).nod fun v57 =>
 C.aSt 1 v57.nod (noV v56) H54 fun v58 H59 =>
 C.aLd 7 true false (l53.getD 1 .junk).nod H59 fun v60 H61 =>
 C.aSt 7 (l53.getD 0 .junk).nod v60 H61 fun v62 H63 =>
 C.aRes 7 true (l53.getD 0 .junk) H63 fun v64 =>
 R [v64] H63)
 (fun R55 =>
 C.aBd [(I 0), (I 0), (I 0), (I 0)] [(0, 1, (I 3))] fun v65 =>
 C.aBd [(I 0), (I 0), (I 0), (I 0)] [(0, 1, (I 2)), (1, 1, (I 12))] fun v66 =>
 C.aBd [(I 0), (I 0), (I 0), (I 0)] [(0, 1, (I 5)), (1, 1, (I 13)), (3, 1, (I 10))] fun v67 =>
 C.aBd [(I 0), (I 0), (I 0), (I 0)] [(0, 1, (I 4))] fun v68 =>
 C.aBS 4 4 (V.agg [(I 0), (I 0), (I 0), (I 0)]) [(0, v65.nod), (1, v66.nod), (2, v67.nod), (3, v68.nod)] fun v69 =>
 C.aBd [(I 0), (I 0), (V.arr [] .full)] [(0, 1, (I 100)), (1, 1, (I 100)), (2, 1, (noV v69).nod.nod)] fun v70 =>
 C.aBS 3 1 (V.agg [(I 0), (I 0), (V.arr [] .full)]) [(0, v70.nod)] fun v71 =>
 C.aApp 3 40 v52 (noV v71).nod fun v72 =>
 R55 [(l43.getD 0 .junk), (l43.getD 1 .junk), v72] H44))
 (fun R45 =>
 C.aFA 4 1 false (l11.getD 2 .junk).nod fun v73 =>
 C.aLd 1 false true v73.nod H12 fun v74 H75 =>
 C.aBd [(I 0), (I 0), (I 0), (V.imm (.string (ByteArray.mk #[])))] [(0, 1, (I (-1))), (1, 1, (I (-1))), (2, 1, (I 1)), (3, 1, (V.imm (.string (ByteArray.mk #[104, 117, 110, 100, 114, 101, 100]))))] fun v76 =>
 C.aBd [(I 0), (I 0), (I 0), (V.imm (.string (ByteArray.mk #[])))] [(0, 1, (I (-1))), (1, 1, (I (-1))), (2, 1, (I (-1))), (3, 1, (V.imm (.string (ByteArray.mk #[104, 117, 110, 100, 114, 101, 100, 115]))))] fun v77 =>
 C.aBS 4 2 (V.agg [(I 0), (I 0), (I 0), (V.imm (.string (ByteArray.mk #[])))]) [(0, v76.nod), (1, v77.nod)] fun v78 =>
 C.aBd [(I 0), (V.arr [] .full)] [(1, 1, (noV v78).nod.nod)] fun v79 =>
 C.aBd [(I 0), (I 0), (I 0), (V.imm (.string (ByteArray.mk #[])))] [(0, 1, (I (-1))), (1, 1, (I (-1))), (2, 1, (I (-1))), (3, 1, (V.imm (.string (ByteArray.mk #[97, 110, 100]))))] fun v80 =>
 C.aBS 4 1 (V.agg [(I 0), (I 0), (I 0), (V.imm (.string (ByteArray.mk #[])))]) [(0, v80.nod)] fun v81 =>
 C.aBd [(I 0), (V.arr [] .full)] [(1, 1, (noV v81).nod.nod)] fun v82 =>
 C.aBS 2 2 (V.agg [(I 0), (V.arr [] .full)]) [(0, v79.nod), (1, v82.nod)] fun v83 =>
 C.aApp 2 32 v74 (noV v83).nod fun v84 =>
 C.aFA 4 1 false (l11.getD 2 .junk).nod fun v85 =>
 C.aSt 1 v85.nod v84 H75 fun v86 H87 =>
 R45 [(l11.getD 0 .junk), (l11.getD 2 .junk), (l11.getD 3 .junk)] H87)))
 [v1, (noV v3), v7, (V.arr [] .full), (I 0)] H10
theorem wf41 : (Nat.ble 0 Try.f41.ntmps && wfC an41 Try.f41.ntmps (Try.f41.body.getD .skip)) = true := by kernel_rfl
theorem tie41 (C : Cb) (H : Hp) (R : List V → Hp → Prop) : wpG Try.prog C an41 (Try.f41.body.getD .skip) (argF []) H (retG Try.prog C Try.f41 R) (fun _ _ _ => False) (retG Try.prog C Try.f41 R) = vc41 C H R := by kernel_rfl
theorem mk41 {H : Hp} {v : V} {H1 : Hp} (hd : v.Nd) (hn : H.length ≤ H1.length) (hb : H1 = H ∨ ∀ (b : Nat) (blk : Blk), H1[b]? = some blk → H[b]? = some blk ∨ BelB H1.length blk) (h : vc41 (real Try.prog) H (retF v H1)) : Ret Try.prog 41 [] H v H1 :=
  ret_mk (an := an41) hm Try.call41 Try.func41 rfl wf41 hd hn hb (Eq.mpr (tie41 (real Try.prog) H (retF v H1)) h)
end Go.Proofs.Ytgodfjbmblghnaa


set_option linter.unusedVariables false
set_option linter.unusedSimpArgs false
set_option linter.unnecessarySimpa false
set_option maxRecDepth 20000
set_option maxHeartbeats 2000000
namespace Go.Proofs.Ytgodfjbmblghnaa
open Go Go.Ab Go.Proofs
attribute [local congr] g_bin g_nilS g_nilP g_un g_ext g_bx g_fa g_ld g_st g_ix g_ixA g_slc g_mk g_bs g_bd g_nc g_cv g_len g_lenT g_app g_appB g_cpy g_mm g_call g_callG g_calm g_calmG g_range g_res g_pick g_cond g_loop g_Jv g_eqS g_eqP g_fd g_ixT g_ta g_lkp g_upd g_mkM g_appS g_inv g_callE g_callEG g_invE g_zr g_wr
def enW : List ByteArray := [⟨#[122, 101, 114, 111]⟩, ⟨#[111, 110, 101]⟩, ⟨#[116, 119, 111]⟩, ⟨#[116, 104, 114, 101, 101]⟩, ⟨#[102, 111, 117, 114]⟩, ⟨#[102, 105, 118, 101]⟩, ⟨#[115, 105, 120]⟩, ⟨#[115, 101, 118, 101, 110]⟩, ⟨#[101, 105, 103, 104, 116]⟩, ⟨#[110, 105, 110, 101]⟩, ⟨#[116, 101, 101, 110]⟩, ⟨#[116, 121]⟩]
def enT (x : ByteArray) : Te := ⟨0, [⟨-1, -1, -1, x⟩]⟩
def enN (i : Nat) : Nu := ⟨i, 0, [⟨1, i, 0, 0⟩]⟩
def enH : Te := ⟨0, [⟨-1, -1, 1, ⟨#[104, 117, 110, 100, 114, 101, 100]⟩⟩, ⟨-1, -1, -1, ⟨#[104, 117, 110, 100, 114, 101, 100, 115]⟩⟩]⟩
def enA : Te := enT ⟨#[97, 110, 100]⟩
def enX : Nu := ⟨10, 10, [⟨3, 0, 0, 0⟩, ⟨1, 11, 0, 0⟩, ⟨4, 0, 0, 0⟩]⟩
def enC : Nu := ⟨100, 100, [⟨3, 0, 0, 0⟩, ⟨2, 12, 0, 0⟩, ⟨5, 13, 0, 10⟩, ⟨4, 0, 0, 0⟩]⟩
def enP : Pl := ⟨1000000, 1, 1, 1⟩
def enS : Sy := ⟨999, 1, 1, 2, enW.map enT ++ [enH, enA], [enP], [(List.range 10).map enN ++ [enX, enC]]⟩
theorem bsW (a0 a1 a2 a3 a4 a5 a6 a7 a8 a9 a10 a11 : ByteArray) (z : V) (K : V → Prop) : aBS 1 12 z [(0, T a0), (1, T a1), (2, T a2), (3, T a3), (4, T a4), (5, T a5), (6, T a6), (7, T a7), (8, T a8), (9, T a9), (10, T a10), (11, T a11)] K = K (.arr [T a0, T a1, T a2, T a3, T a4, T a5, T a6, T a7, T a8, T a9, T a10, T a11] .full) := by
  have h : ∀ x, (okE 1 (T x)) = True := fun x => eq_true (okE_imm _ rfl)
  simp [aBS, aPs, setP, h]
theorem okPi4 (a b c d : Int) : okE 4 (.agg [I a, I b, I c, I d]) = True := eq_true ⟨rfl, fun x hx => by
  simp only [V.cl, List.mem_cons, List.not_mem_nil, or_false] at hx
  rcases hx with rfl | rfl | rfl | rfl <;> rfl⟩
theorem okFo4 (a b c : Int) (d : ByteArray) : okE 4 (.agg [I a, I b, I c, T d]) = True := eq_true ⟨rfl, fun x hx => by
  simp only [V.cl, List.mem_cons, List.not_mem_nil, or_false] at hx
  rcases hx with rfl | rfl | rfl | rfl <;> rfl⟩
theorem okTe2 (a : Int) (l : List V) : okE 2 (.agg [I a, .arr l .no]) = True := eq_true ⟨rfl, fun x hx => by
  simp only [V.cl, List.mem_cons, List.not_mem_nil, or_false] at hx
  rcases hx with rfl | rfl <;> rfl⟩
theorem okNu3 (a b : Int) (l : List V) : okE 3 (.agg [I a, I b, .arr l .no]) = True := eq_true ⟨rfl, fun x hx => by
  simp only [V.cl, List.mem_cons, List.not_mem_nil, or_false] at hx
  rcases hx with rfl | rfl | rfl <;> rfl⟩
theorem okArr (l : List V) : okE 1 (.arr l .no) = True := eq_true ⟨rfl, fun x hx => by
  simp only [V.cl, List.mem_cons, List.not_mem_nil, or_false] at hx
  subst hx; rfl⟩
theorem bs1p (a b c d : Int) (z : V) (K : V → Prop) : aBS 4 1 z [(0, .agg [I a, I b, I c, I d])] K = K (.arr [.agg [I a, I b, I c, I d]] .full) := by simp [aBS, aPs, setP, okPi4]
theorem bs1f (a b c : Int) (d : ByteArray) (z : V) (K : V → Prop) : aBS 4 1 z [(0, .agg [I a, I b, I c, T d])] K = K (.arr [.agg [I a, I b, I c, T d]] .full) := by simp [aBS, aPs, setP, okFo4]
theorem bs2f (a b c : Int) (d : ByteArray) (a' b' c' : Int) (d' : ByteArray) (z : V) (K : V → Prop) : aBS 4 2 z [(0, .agg [I a, I b, I c, T d]), (1, .agg [I a', I b', I c', T d'])] K = K (.arr [.agg [I a, I b, I c, T d], .agg [I a', I b', I c', T d']] .full) := by simp [aBS, aPs, setP, okFo4]
theorem bs3p (a b c d a' b' c' d' a2 b2 c2 d2 : Int) (z : V) (K : V → Prop) : aBS 4 3 z [(0, .agg [I a, I b, I c, I d]), (1, .agg [I a', I b', I c', I d']), (2, .agg [I a2, I b2, I c2, I d2])] K = K (.arr [.agg [I a, I b, I c, I d], .agg [I a', I b', I c', I d'], .agg [I a2, I b2, I c2, I d2]] .full) := by simp [aBS, aPs, setP, okPi4]
theorem bs4p (a b c d a' b' c' d' a2 b2 c2 d2 a3 b3 c3 d3 : Int) (z : V) (K : V → Prop) : aBS 4 4 z [(0, .agg [I a, I b, I c, I d]), (1, .agg [I a', I b', I c', I d']), (2, .agg [I a2, I b2, I c2, I d2]), (3, .agg [I a3, I b3, I c3, I d3])] K = K (.arr [.agg [I a, I b, I c, I d], .agg [I a', I b', I c', I d'], .agg [I a2, I b2, I c2, I d2], .agg [I a3, I b3, I c3, I d3]] .full) := by simp [aBS, aPs, setP, okPi4]
theorem bs1t (a : Int) (l : List V) (z : V) (K : V → Prop) : aBS 2 1 z [(0, .agg [I a, .arr l .no])] K = K (.arr [.agg [I a, .arr l .no]] .full) := by simp [aBS, aPs, setP, okTe2]
theorem bs2t (a b : Int) (l l' : List V) (z : V) (K : V → Prop) : aBS 2 2 z [(0, .agg [I a, .arr l .no]), (1, .agg [I b, .arr l' .no])] K = K (.arr [.agg [I a, .arr l .no], .agg [I b, .arr l' .no]] .full) := by simp [aBS, aPs, setP, okTe2]
theorem bs1n (a b : Int) (l : List V) (z : V) (K : V → Prop) : aBS 3 1 z [(0, .agg [I a, I b, .arr l .no])] K = K (.arr [.agg [I a, I b, .arr l .no]] .full) := by simp [aBS, aPs, setP, okNu3]
theorem bs1a (l : List V) (z : V) (K : V → Prop) : aBS 1 1 z [(0, .arr l .no)] K = K (.arr [.arr l .no] .full) := by simp [aBS, aPs, setP, okArr]
theorem appTe (l : List Te) (xs : List V) (ts : List Te) (h : xs = ts.map teV) (f g : Fl) (K : V → Prop) : aApp 2 32 (.arr (l.map teV) f) (.arr xs g) K = (f.ap = true ∧ (l.length + ts.length) * 32 ≤ 140737488355328 ∧ K (.arr ((l ++ ts).map teV) .own)) := by
  subst h
  exact e_appE (K := K) teV (fun _ => rfl) 32 l ts f g
theorem appNu (l : List Nu) (xs : List V) (ts : List Nu) (h : xs = ts.map nuV) (f g : Fl) (K : V → Prop) : aApp 3 40 (.arr (l.map nuV) f) (.arr xs g) K = (f.ap = true ∧ (l.length + ts.length) * 40 ≤ 140737488355328 ∧ K (.arr ((l ++ ts).map nuV) .own)) := by
  subst h
  exact e_appE (K := K) nuV (fun _ => rfl) 40 l ts f g
theorem c41 (H : Hp) : Ret Try.prog 41 [] H (syV enS) H := by
  refine mk41  rfl (Nat.le_refl _) (.inl rfl) ?_
  simp only [vc41, real]
  repeat (first | (with_reducible first | refine Ju.go ?_ | (refine Hd.go ?_; intro K Q hK hQ; simp only [e_bx, okE_agg, lv_cons, List.length_nil, Nat.zero_add, Nat.reduceAdd, all_c, ck_I, ck_arr, all_n, Bool.and_self, and_true, cl_agg, true_and, bsW, e_bd1, okE_I, Nat.reduceLeDiff, cl_imm, spl_0, spl_n, spl_s, e_bd0, nod_agg, List.map_cons, nodL_imm, List.map_nil, bs1p, noV_full, nod_arr, nd_no, okE_arr, cl_arr, hp_len, hp_len_cons, hp_assoc, hp_cons, hp_nil, nod_ptr, e_sc1, stV_agg, nodL_arr, nd_full]; subst hK hQ) | refine Jr.go ?_) | refine sd ?_)
  refine loop_of (fun i : Nat => i ≤ 12) (fun i => [.ptr H.length 0, .arr (enW.map tb) .no, .ptr (H.length + 1) 0, .arr (((List.range (min i 10)).map enN).map nuV) (oF (min i 10)), I i]) (fun i => H ++ [.cells [I 0, I 0, I 0, I 0, .arr [] .full, .arr [] .full, .arr [] .full], .cells [I 999, I 1, I 1, I 2, .arr (((enW.take i).map enT).map teV) (oF i), .arr [plV enP] .no, .arr [] .full]]) (fun i => 12 - i) 0 (Nat.zero_le _) rfl rfl ?_
  intro i hi
  have eL : enW.length = 12 := rfl
  have t0 : ((12 : Nat) : Int) = 12 := rfl
  repeat (first | (with_reducible first | refine Ju.go ?_ | (refine Hd.go ?_; intro K Q hK hQ; simp only [List.getD_cons_succ, List.getD_cons_zero, nod_arr, nd_no, e_lenA, List.length_map, eL, t0, nod_imm, Try.underlying3, e_lss, e_cond, decide_eq_true_eq]; subst hK hQ) | refine Jr.go ?_) | refine sd ?_)
  by_cases hlt : i < 12
  · have d : (i : Int) < 12 := by omega
    have tk := take_snocA enW default (i := i) (by rw [eL]; exact hlt)
    have tl : ((enW.take i).map enT).length = i := by rw [List.length_map, List.length_take, eL]; omega
    repeat (first | (with_reducible first | refine Ju.go ?_ | (refine Hd.go ?_; intro K Q hK hQ; simp only [d, if_true, List.getD_cons_succ, List.getD_cons_zero, nod_ptr, e_fa, Nat.zero_add, e_lM1, Nat.reduceAdd, lv_cons, List.length_nil, Nat.reduceLeDiff, nodL_arr, vs_s, vs_0, true_and, nod_arr, nd_no, nod_imm, ix_tb, eL, t0, Int.toNat_natCast, nod_cptr, e_ldc, Int.reduceNeg, e_bd1, okE_I, cl_imm, spl_0, spl_n, spl_s, okE_str, e_bd0, nod_agg, List.map_cons, nodL_imm, List.map_nil]; subst hK hQ) | refine Jr.go ?_) | refine sd ?_)
    generalize enW.getD i default = x at *
    have ap1 : ∀ K, aApp 2 32 (.arr (((enW.take i).map enT).map teV) (oF i)) (.arr [.agg [I 0, .arr [.agg [I (-1), I (-1), I (-1), T x]] .no]] .no) K = ((oF i).ap = true ∧ (((enW.take i).map enT).length + 1) * 32 ≤ 140737488355328 ∧ K (.arr (((enW.take i).map enT ++ [enT x]).map teV) .own)) := fun K => appTe _ _ [enT x] rfl _ _ K
    have ap2 : ∀ K, aApp 3 40 (.arr (((List.range (min i 10)).map enN).map nuV) (oF (min i 10))) (.arr [.agg [I i, I 0, .arr [.agg [I 1, I i, I 0, I 0]] .no]] .no) K = ((oF (min i 10)).ap = true ∧ (((List.range (min i 10)).map enN).length + 1) * 40 ≤ 140737488355328 ∧ K (.arr (((List.range (min i 10)).map enN ++ [enN i]).map nuV) .own)) := fun K => appNu _ _ [enN i] rfl _ _ K
    have nl : ((List.range (min i 10)).map enN).length = min i 10 := by simp
    have m10 : min i 10 ≤ 10 := Nat.min_le_right _ _
    repeat (first | (with_reducible first | refine Ju.go ?_ | (refine Hd.go ?_; intro K Q hK hQ; simp only [Int.reduceNeg, bs1f, noV_full, nod_arr, nd_no, e_bd1, okE_arr, Nat.reduceAdd, lv_cons, List.length_nil, Nat.zero_add, Nat.reduceLeDiff, cl_arr, spl_s, spl_0, spl_n, e_bd0, true_and, nod_agg, List.map_cons, nodL_imm, nodL_arr, List.map_nil, bs1t, ap1, oF_ap, tl, List.getD_cons_succ, List.getD_cons_zero, nod_ptr, e_fa, e_sc1, stV_arr, nod_imm, Try.underlying3, e_lss, e_cond, decide_eq_true_eq]; subst hK hQ) | refine Jr.go ?_) | refine sd ?_)
    have et : (enW.take (i + 1)).map enT = (enW.take i).map enT ++ [enT x] := by rw [tk, List.map_append]; rfl
    by_cases h10 : i < 10
    · have d10 : (i : Int) < 10 := by omega
      have em : min (i + 1) 10 = i + 1 := by omega
      have em0 : min i 10 = i := by omega
      have en : (List.range (i + 1)).map enN = (List.range (min i 10)).map enN ++ [enN i] := by rw [em0, List.range_succ, List.map_append]; rfl
      repeat (first | (with_reducible first | refine Ju.go ?_ | (refine Hd.go ?_; intro K Q hK hQ; simp only [d10, if_true, List.getD_cons_succ, List.getD_cons_zero, nod_imm, e_bd1, okE_I, Nat.zero_add, lv_cons, List.length_nil, Nat.reduceAdd, Nat.reduceLeDiff, cl_imm, spl_0, spl_n, spl_s, e_bd0, true_and, nod_agg, List.map_cons, nodL_imm, List.map_nil, bs1p, noV_full, nod_arr, nd_no, okE_arr, cl_arr, own0_imm, nodL_arr, bs1n, ap2, oF_ap, nl, Try.underlying3, e_add]; subst hK hQ) | refine Jr.go ?_) | refine sd ?_)
      refine ⟨i + 1, by omega, ?_, ?_, by omega⟩
      · rw [em, en]; rfl
      · rw [et]; rfl
    · have d10 : ¬ (i : Int) < 10 := by omega
      have em : min (i + 1) 10 = min i 10 := by omega
      repeat (first | (with_reducible first | refine Ju.go ?_ | (refine Hd.go ?_; intro K Q hK hQ; simp only [d10, if_false, List.getD_cons_zero, List.getD_cons_succ, nod_imm, Try.underlying3, e_add]; subst hK hQ) | refine Jr.go ?_) | refine sd ?_)
      refine ⟨i + 1, by omega, ?_, ?_, by omega⟩
      · rw [em]; rfl
      · rw [et]; rfl
  · have d : ¬ (i : Int) < 12 := by omega
    have ap1 : ∀ K, aApp 2 32 (.arr (((enW.take i).map enT).map teV) (oF i)) (.arr [.agg [I 0, .arr [.agg [I (-1), I (-1), I 1, T ⟨#[104, 117, 110, 100, 114, 101, 100]⟩], .agg [I (-1), I (-1), I (-1), T ⟨#[104, 117, 110, 100, 114, 101, 100, 115]⟩]] .no], .agg [I 0, .arr [.agg [I (-1), I (-1), I (-1), T ⟨#[97, 110, 100]⟩]] .no]] .no) K = ((oF i).ap = true ∧ (((enW.take i).map enT).length + 2) * 32 ≤ 140737488355328 ∧ K (.arr (((enW.take i).map enT ++ [enH, enA]).map teV) .own)) := fun K => appTe _ _ [enH, enA] rfl _ _ K
    have ap2 : ∀ f K, aApp 3 40 (.arr (((List.range (min i 10)).map enN).map nuV) f) (.arr [.agg [I 10, I 10, .arr [.agg [I 3, I 0, I 0, I 0], .agg [I 1, I 11, I 0, I 0], .agg [I 4, I 0, I 0, I 0]] .no]] .no) K = (f.ap = true ∧ (((List.range (min i 10)).map enN).length + 1) * 40 ≤ 140737488355328 ∧ K (.arr (((List.range (min i 10)).map enN ++ [enX]).map nuV) .own)) := fun f K => appNu _ _ [enX] rfl _ _ K
    have ap3 : ∀ f K, aApp 3 40 (.arr (((List.range (min i 10)).map enN ++ [enX]).map nuV) f) (.arr [.agg [I 100, I 100, .arr [.agg [I 3, I 0, I 0, I 0], .agg [I 2, I 12, I 0, I 0], .agg [I 5, I 13, I 0, I 10], .agg [I 4, I 0, I 0, I 0]] .no]] .no) K = (f.ap = true ∧ (((List.range (min i 10)).map enN ++ [enX]).length + 1) * 40 ≤ 140737488355328 ∧ K (.arr (((List.range (min i 10)).map enN ++ [enX] ++ [enC]).map nuV) .own)) := fun f K => appNu _ _ [enC] rfl _ _ K
    have tl : ((enW.take i).map enT).length ≤ 12 := by rw [List.length_map, List.length_take, eL]; omega
    have nl : ((List.range (min i 10)).map enN).length ≤ 10 := by simp; omega
    have tl2 : (enW.take i).length ≤ 12 := by rw [List.length_take, eL]; omega
    have nl3 : (List.range (min i 10)).length ≤ 10 := by simp; omega
    have nl2 : ((List.range (min i 10)).map enN ++ [enX]).length ≤ 11 := by rw [List.length_append]; simp; omega
    repeat (first | (with_reducible first | refine Ju.go ?_ | (refine Hd.go ?_; intro K Q hK hQ; simp only [d, if_false, List.getD_cons_succ, List.getD_cons_zero, nod_ptr, e_fa, Nat.zero_add, e_lM1, Nat.reduceAdd, lv_cons, List.length_nil, Nat.reduceLeDiff, nodL_arr, vs_s, vs_0, true_and, Int.reduceNeg, e_bd1, okE_I, cl_imm, spl_0, spl_n, spl_s, okE_str, e_bd0, nod_agg, List.map_cons, nodL_imm, List.map_nil, bs2f, noV_full, nod_arr, nd_no, okE_arr, cl_arr, bs1f, bs2t, ap1, oF_ap, List.length_map, e_sc1, stV_arr]; subst hK hQ) | refine Jr.go ?_) | refine sd ?_)
    repeat (first | (with_reducible first | refine Ju.go ?_ | (refine Hd.go ?_; intro K Q hK hQ; simp only [bs3p, noV_full, nod_arr, nd_no, e_bd1, okE_I, Nat.zero_add, lv_cons, List.length_nil, Nat.reduceAdd, Nat.reduceLeDiff, cl_imm, spl_0, spl_n, spl_s, okE_arr, cl_arr, e_bd0, true_and, nod_agg, List.map_cons, nodL_imm, nodL_arr, List.map_nil, bs1n, List.getD_cons_succ, List.getD_cons_zero, ap2, oF_ap, List.length_map, bs4p, ap3, ap_own, nd_own, bs1a, nod_ptr, e_fa, e_sc1, stV_arr, e_lA1, dr_0, tk_s, tk_0, e_sc0, stV_agg, okE_agg, all_c, ck_I, ck_arr, all_n, Bool.and_self, and_true, cl_agg, e_rA0]; subst hK hQ) | refine Jr.go ?_) | refine sd ?_)
    obtain rfl : i = 12 := by omega
    exact end1G (.keep (syV enS) (bel_sy _ enS))
end Go.Proofs.Ytgodfjbmblghnaa


set_option linter.unusedVariables false
set_option linter.unusedSimpArgs false
set_option linter.unnecessarySimpa false
set_option maxRecDepth 20000
set_option maxHeartbeats 2000000
namespace Go.Proofs.Ytgodfjbmblghnaa
open Go Go.Ab Go.Proofs
attribute [local congr] g_bin g_nilS g_nilP g_un g_ext g_bx g_fa g_ld g_st g_ix g_ixA g_slc g_mk g_bs g_bd g_nc g_cv g_len g_lenT g_app g_appB g_cpy g_mm g_call g_callG g_calm g_calmG g_range g_res g_pick g_cond g_loop g_Jv g_eqS g_eqP g_fd g_ixT g_ta g_lkp g_upd g_mkM g_appS g_inv g_callE g_callEG g_invE g_zr g_wr
theorem okT_eq (x : ByteArray) : okT x = (inB x.data.toList.length 1 30 && (x.data.toList.map fun b => ((b.toNat : Nat) : Int)).all (fun n => !badB n)) := by
  unfold okT bys
  rw [ByteArray.toList_eq]
  rfl
theorem okFo_eq (s : Sy) (f : Fo) : okFo s f = (inB f.g (-1) (s.gen - 1) && inB f.k (-1) (s.cas - 1) && inB f.c (-1) (s.cls - 1) && (inB f.t.data.toList.length 1 30 && (f.t.data.toList.map fun b => ((b.toNat : Nat) : Int)).all (fun n => !badB n))) := by
  unfold okFo; rw [okT_eq]
theorem enOk : okSy enS = true := by
  have h1 : enS.te.all (okTe enS) = true := by
    have : okTe enS = fun t => inB t.g 0 (enS.gen - 1) && decide ((t.f.length : Int) ≤ 60) && t.f.all (fun f => inB f.g (-1) (enS.gen - 1) && inB f.k (-1) (enS.cas - 1) && inB f.c (-1) (enS.cls - 1) && (inB f.t.data.toList.length 1 30 && (f.t.data.toList.map fun b => ((b.toNat : Nat) : Int)).all (fun n => !badB n))) := by
      funext t
      unfold okTe
      congr 1
      congr 1
      funext f
      exact okFo_eq _ _
    rw [this]
    decide +kernel
  unfold okSy
  rw [h1]
  decide +kernel
theorem enSm : Sm enS := by
  refine ⟨by decide +kernel, by decide +kernel, by decide +kernel, ?_, ?_⟩
  · have : enS.te.all (fun t => decide (t.f.length ≤ 9223372036854775807) && t.f.all fun f => decide (f.t.size ≤ 9223372036854775807)) = true := by decide +kernel
    intro t ht
    have h := List.all_eq_true.1 this t ht
    simp only [Bool.and_eq_true, decide_eq_true_eq] at h
    exact ⟨h.1, fun f hf => of_decide_eq_true (List.all_eq_true.1 h.2 f hf)⟩
  · have : enS.se.all (fun l => decide (l.length ≤ 9223372036854775807) && l.all fun r => decide (r.p.length ≤ 9223372036854775807)) = true := by decide +kernel
    intro t ht
    have h := List.all_eq_true.1 this t ht
    simp only [Bool.and_eq_true, decide_eq_true_eq] at h
    exact ⟨h.1, fun f hf => of_decide_eq_true (List.all_eq_true.1 h.2 f hf)⟩
theorem enAsk {n : Int} (h0 : 0 ≤ n) (h1 : n ≤ 999) : okAsk enS n 0 0 0 = true := by
  unfold okAsk
  rw [enOk]
  have : inB n 0 enS.top = true := inB_iff.2 ⟨h0, h1⟩
  rw [this]
  decide +kernel
theorem en242 : (saW enS 242 0 0 0).all gdW = true ∧ (saW enS 242 0 0 0).map Sd.x = [⟨#[116, 119, 111]⟩, ⟨#[104, 117, 110, 100, 114, 101, 100, 115]⟩, ⟨#[102, 111, 117, 114]⟩, ⟨#[116, 121]⟩, ⟨#[116, 119, 111]⟩] := by decide +kernel
theorem en105 : (saW enS 105 0 0 0).all gdW = true ∧ (saW enS 105 0 0 0).map Sd.x = [⟨#[111, 110, 101]⟩, ⟨#[104, 117, 110, 100, 114, 101, 100]⟩, ⟨#[97, 110, 100]⟩, ⟨#[102, 105, 118, 101]⟩] := by decide +kernel
theorem en30 : (saW enS 30 0 0 0).all gdW = true ∧ saW enS 30 0 0 0 = [⟨⟨#[116, 104, 114, 101, 101]⟩, 3, 0, 3, 0, 1⟩, ⟨⟨#[116, 121]⟩, 30, 0, 10, 1, 0⟩] := ⟨by decide +kernel, by rfl⟩
theorem enCls : clsOf enS.pl 1000001 = 1 := by decide +kernel
theorem enRd : rdL enS 99 0 0 0 [⟨#[116, 104, 114, 101, 101]⟩, ⟨#[116, 121]⟩] = [30] := by decide +kernel
end Go.Proofs.Ytgodfjbmblghnaa

