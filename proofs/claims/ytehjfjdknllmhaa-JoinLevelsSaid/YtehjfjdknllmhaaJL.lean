/- Contracts of join's functions, eighth part: changed. -/
import Derived.Test.YtehjfjdknllmhaaJK
set_option linter.unusedVariables false
set_option linter.unusedSimpArgs false
set_option linter.unnecessarySimpa false
set_option maxRecDepth 20000
set_option maxHeartbeats 2000000
namespace Go.Proofs.Ytehjfjdknllmhaa
open Go Go.Ab Go.Proofs
attribute [local congr] g_bin g_nilS g_nilP g_un g_ext g_bx g_fa g_ld g_st g_ix g_ixA g_slc g_mk g_bs g_bd g_nc g_cv g_len g_lenT g_app g_appB g_cpy g_mm g_call g_callG g_calm g_calmG g_range g_res g_pick g_cond g_loop g_Jv
def funs (st : List Nat) : V := .arr (st.map fun f => .fn f []) .full
theorem nod_funs (st : List Nat) : (funs st).nod = funs st := rfl
theorem e_lenF (st : List Nat) {K : V → Prop} : aLen (funs st) K = K (I st.length) := by simp [aLen, funs]
theorem e_ixF (st : List Nat) (i : Int) {K : V → Prop} : aIx 1 (funs st) (I i) K = (0 ≤ i ∧ i < st.length ∧ K (.cptr (.fn (st.getD i.toNat 0) []))) := by
  simp only [aIx, funs, List.length_map, eq_iff_iff]
  constructor
  · rintro ⟨h1, h2, h3, h4⟩
    refine ⟨h1, h2, ?_⟩
    have : i.toNat < st.length := by omega
    simpa [List.getD_eq_getElem?_getD, this] using h4
  · rintro ⟨h1, h2, h4⟩
    have : i.toNat < st.length := by omega
    refine ⟨h1, h2, ?_, ?_⟩
    · simp [List.getD_eq_getElem?_getD, this]; rfl
    · simpa [List.getD_eq_getElem?_getD, this] using h4
def chV (s m : List Int) (a b : Int) (l : List (List Int)) : V :=
  if markE s m ≠ 0 then .tup [mkd [] [], I (markE s m)] else if ratioB a b = false then .tup [mkd [] [], I 2]
  else if 100000 < (headL s m).length + (tailL s m).length + l.flatten.length then .tup [mkd [] [], I 4] else .tup [mkd (builtS s m l) (builtM s m l), I 0]
theorem chV_nd (s m : List Int) (a b : Int) (l : List (List Int)) : (chV s m a b l).Nd := by
  unfold chV
  repeat' split
  all_goals rfl
/-- Steps: each turns one list of periods into the next. -/
structure Stps (a b : Int) (st : List Nat) (gs : Nat → List (List Int)) : Prop where
  call : ∀ i, i < st.length → ∀ H, Ret Try.prog (st.getD i 0) [rat a b, lists (gs i) .no] H (lists (gs (i + 1)) .no) H
  len : (gs st.length).length ≤ 100000000
  flat : (gs st.length).flatten.length ≤ 10000000000000
theorem nd_nd (f : Fl) : f.nd.nd = f.nd := by cases f <;> rfl
theorem e_range (P : Program) (f : Nat) (caps : List V) (np : Nat) (H : Hp) (stp : List V → Hp → (Hp → (Hp → Prop) → Prop) → (Bool → Hp → Prop) → Prop) (n r : Hp → Prop) : aRange P (.fn f caps) np H stp n r = RangeA P f caps np H stp (fun p H' => cnd p (r H') (n H')) := rfl
theorem get_len {L : List Blk} {k : Nat} (H : Hp) : (H ++ L)[H.length + k]? = L[k]? := by rw [List.getElem?_append_right (by omega)]; congr 1; omega
theorem bel_tail {H L M : Hp} (hL : L.length = M.length) (h : ∀ (k : Nat) (blk : Blk), M[k]? = some blk → L[k]? = some blk ∨ BelB (H ++ M).length blk) : ∀ (b : Nat) (blk : Blk), (H ++ M)[b]? = some blk → (H ++ L)[b]? = some blk ∨ BelB (H ++ M).length blk := by
  intro b blk hb
  by_cases hlt : b < H.length
  · rw [List.getElem?_append_left hlt] at hb ⊢; exact .inl hb
  · rw [List.getElem?_append_right (by omega)] at hb ⊢
    exact h _ _ hb
theorem end2M {H : Hp} {s m : List Int} {f g : Fl} {L : List Blk} {e : Int} : retF (.tup [mkd s m, I e]) H [.agg [ints s f, ints m g], I e] (H ++ L) :=
  end2A (Mnd _ _) rfl (fzMn _ _ _ _) (fzI _)
theorem end2N {H : Hp} {L : List Blk} {e : Int} : retF (.tup [mkd [] [], I e]) H [.agg [.arr [] .full, .arr [] .full], I e] (H ++ L) := end2M (s := []) (m := []) (f := .full) (g := .full)
theorem c64 (s m : List Int) (a b : Int) (st : List Nat) (gs : Nat → List (List Int)) (H : Hp) (hsl : s.length ≤ 1000000000) (hml : m.length ≤ 1000000000) (hst : st.length ≤ 100) (h0 : gs 0 = perL s m)
    (hg : markE s m = 0 → ratioB a b = true → Stps a b st gs) : Ret Try.prog 64 [mkd s m, rat a b, funs st] H (chV s m a b (gs st.length)) H := by
  refine mk64 _ _ _ (chV_nd _ _ _ _ _) (Nat.le_refl _) (.inl rfl) ?_
  simp only [vc64, real]
  simp only [nod_agg, List.map_cons, nodL_ints, nd_no, List.map_nil, nodL_imm, Jn, nod_nod, Try.underlying25, e_bd0, List.getD_cons_succ, List.getD_cons_zero, nod_funs, Try.underlying3, e_bd1, Nat.zero_add, lv_cons, lv_nil, Nat.reduceAdd, Nat.reduceLeDiff, e_bx, okE_agg, all_c, ck_arr, all_n, Bool.and_self, and_true, nod_ptr, cl_agg, e_sc0, true_and, nod_imm, okE_arr, cl_arr, e_bxI, ck_I, nod_cptr, e_ldcA, ck_ints]
  refine call_of (c69 s m _ hsl hml) ?_
  simp only [nod_imm, e_sc0, Nat.zero_add, lv_cons, lv_nil, Nat.reduceAdd, Nat.reduceLeDiff, stV_agg, List.map_cons, nodL_arr0, List.map_nil, okE_agg, all_c, ck_arr, all_n, Bool.and_self, and_true, cl_agg, spl_0, spl_n, e_rA0, dr_0, tk_s, tk_0, true_and, e_neq, e_cond, Bool.not_eq_true', decide_eq_false_iff_not]
  unfold chV
  by_cases he : markE s m = 0
  · rw [if_neg (by simp [he]), if_neg (by simp [he])]
    refine call_of (c84 a b _) ?_
    simp only [nod_imm, e_sc0, Nat.zero_add, lv_cons, lv_nil, Nat.reduceAdd, Nat.reduceLeDiff, stV_agg, List.map_cons, nodL_arr0, List.map_nil, okE_agg, all_c, ck_arr, all_n, Bool.and_self, and_true, cl_agg, spl_0, spl_n, e_rA0, dr_0, tk_s, tk_0, true_and, hp_assoc, hp_cons, hp_nil, hp_len, hp_len_cons, hp_len_nil, e_not, e_cond, Bool.not_eq_true']
    by_cases hr : ratioB a b = true
    · rw [if_neg (by simp [hr]), if_neg (by simp [hr])]
      have hM := markE_zero he
      have hG := hg he hr
      refine call_of (c85 s m _) ?_
      simp only [nod_fn]
      rw [e_range]
      intro L hY hbelL
      have h2 := hM.two
      have hm1 := hM.mlen
      simp only [hp_len, hp_len_cons, hp_len_nil, hp_assoc, hp_cons, hp_nil, Nat.zero_add, Nat.reduceAdd, Nat.add_zero] at hY hbelL ⊢
      refine ⟨_, _, .ready, false, c96 s m _ (fun i => H ++ [.cells [.arr [] .full, .arr [] .full], .cells [lists ((List.range i).map (per s m)) (oF i)], L .ready false]) hM ?_ ?_ ?_, ?_, ?_, ?_⟩
      · intro i hi
        refine hY _ _ false _ rfl (get_len H) ⟨get_len H, ?_⟩
        simp only [hp_setk, hp_ss, hp_s0, List.getD_cons_zero, nod_ints, nd_no, bs1L, nod_lists, nd_full, oF_succ, cond_false, true_and, e_lM1, Nat.zero_add, lv_cons, lv_nil, Nat.reduceLeDiff, e_appL, oF_ap, List.length_map, nodL_lists, vs_0, e_sc1, stV_lists, okE_lists, cl_lists, spl_0, spl_n, hp_getk, hp_gs, hp_g0]
        refine And.intro (by simp; omega) ?_
        rw [List.range_succ, List.map_append]
        simp
      · simp
      · refine bel_tail rfl ?_
        intro k blk hk
        match k, hk with
        | 0, hk => exact .inl hk
        | 1, hk =>
          cases hk
          exact .inr fun c hc => by simp at hc; subst hc; exact bel_lists _ _ _
        | 2, hk => exact .inl hk
      · exact get_len H
      · intro h; cases h
      · rw [oF_pos (by omega), show (List.range (m.length - 1)).map (per s m) = perL s m from rfl]
        have hP := perL_lens hM
        rw [← h0] at hP ⊢
        show aLen (funs st) _
        rw [e_lenF]
        simp only [hp_setk, hp_ss, hp_s0]
        refine loop_of (fun i : Nat => i ≤ st.length) (fun i => [.cptr (mkd s m), .cptr (rat a b), .ptr H.length 0, .ptr (H.length + 1) 0, funs st, I st.length, I i]) (fun i => H ++ [.cells [.arr [] .full, .arr [] .full], .cells [lists (gs i) (fO i)], .dead]) (fun i => st.length - i) 0 (by omega) rfl rfl ?_
        intro i hi
        simp only [List.getD_cons_succ, List.getD_cons_zero, nod_imm, nod_funs, nod_cptr, nod_ptr, e_add, e_ldcA, lv_cons, lv_nil, Nat.zero_add, Nat.reduceAdd, nod_agg, List.map_cons, nodL_imm, List.map_nil, true_and, e_ixF, Int.toNat_natCast, e_ldcF, nod_fn, e_callG, e_lc1, Nat.reduceLeDiff, nod_lists, nd_fO, nd_no, e_fac, e_ldci, nod_ints, e_len, e_sub, e_ix, e_ldc, e_slcLo, e_lenL, e_slcHi, e_lss, e_cond, decide_eq_true_eq]
        split
        · rename_i hlt
          have hlt' : i < st.length := by omega
          repeat (refine And.intro (by first | (unfold R64; omega) | omega | assumption | (intros; (try simp only [Bool.or_eq_true, Bool.and_eq_true, Bool.not_eq_true', Bool.or_eq_false_iff, Bool.and_eq_false_iff, decide_eq_false_iff_not, decide_eq_true_eq, Bool.not_eq_true, Bool.not_eq_false'] at *); (try unfold R64); omega)) ?_)
          refine call_of (hG.call i hlt' _) ?_
          simp only [e_sc1, Nat.zero_add, lv_cons, lv_nil, Nat.reduceLeDiff, stV_lists, okE_lists, cl_lists, spl_0, spl_n, true_and]
          exact ⟨(by unfold R64; omega), i + 1, by omega, rfl, rfl, by omega⟩
        · have : i = st.length := by omega
          subst this
          have hlen := hG.len
          have hflat := hG.flat
          have b1 := hM.h0
          have b2 := hM.h1
          have hh := headL_le hM
          have ht := tailL_le hM
          have e0 : List.take (m.getD (Int.toNat 0) 0).toNat s = headL s m := rfl
          have e1 : ((m.length : Int) - 1).toNat = m.length - 1 := by omega
          have et : List.drop (m.getD (m.length - 1) 0).toNat s = tailL s m := rfl
          rw [e0, e1, et]
          unfold builtS builtM
          clear hY hbelL h0 hg hP hG e0 et
          generalize gs st.length = l at *
          generalize fO st.length = f0
          generalize headL s m = hd at *
          generalize tailL s m = tl at *
          refine ⟨by omega, by omega, b1.1, b1.2, (by unfold R64; omega), by omega, by omega, b2.1, b2.2, (by unfold R64; omega), ?_⟩
          refine loop_of (fun i : Nat => i ≤ l.length) (fun i => [.ptr H.length 0, .ptr (H.length + 1) 0, ints hd .no, ints tl .no, I (hd.length + tl.length + (l.take i).flatten.length), lists l .no, I l.length, I i]) (fun _ => H ++ [.cells [.arr [] .full, .arr [] .full], .cells [lists l f0], .dead]) (fun i => l.length - i) 0 (by omega) (by simp) rfl ?_
          intro i hi
          have hfi := take_flat_le l i
          simp only [List.getD_cons_succ, List.getD_cons_zero, nod_imm, nod_lists, nd_no, e_add, e_ixL, Int.toNat_natCast, nod_cptr, e_ldci, nod_ints, true_and, e_len, nod_ptr, e_sc0, Nat.zero_add, lv_cons, lv_nil, Nat.reduceAdd, Nat.reduceLeDiff, stV_agg, List.map_cons, nodL_arr0, List.map_nil, okE_agg, all_c, ck_arr, all_n, Bool.and_self, and_true, cl_agg, spl_0, spl_n, e_rA0, dr_0, tk_s, tk_0, bs1, nd_full, okE_ints, cl_ints, e_gtr, e_cond, decide_eq_true_eq, e_lss]
          split
          · rename_i hlt
            have hlt' : i < l.length := by omega
            have hfi2 := take_flat_le l (i + 1)
            have hts := take_succL l i hlt'
            rw [hts] at hfi2
            simp only [List.flatten_append, List.flatten_cons, List.flatten_nil, List.append_nil, List.length_append] at hfi2
            repeat (refine And.intro (by first | (unfold R64; omega) | omega | assumption | (intros; (try simp only [Bool.or_eq_true, Bool.and_eq_true, Bool.not_eq_true', Bool.or_eq_false_iff, Bool.and_eq_false_iff, decide_eq_false_iff_not, decide_eq_true_eq, Bool.not_eq_true, Bool.not_eq_false'] at *); (try unfold R64); omega)) ?_)
            refine ⟨i + 1, by omega, ?_, by omega⟩
            rw [hts]
            simp only [List.flatten_append, List.flatten_cons, List.flatten_nil, List.append_nil, List.length_append, Int.natCast_add, Int.add_assoc]
            rfl
          · have : i = l.length := by omega
            subst this
            rw [List.take_length]
            by_cases hbig : 100000 < hd.length + tl.length + l.flatten.length
            · rw [if_pos hbig, if_pos (by omega)]
              exact end2N
            · rw [if_neg hbig, if_neg (by omega)]
              refine call_of (c61o hd _ (by omega)) ?_
              simp only [nod_ints, nd_own, okE_ints, cl_ints, spl_0, spl_n, lv_cons, lv_nil, Nat.zero_add, Nat.reduceAdd, Nat.reduceLeDiff, spl_s, own0_ints, stV_agg, List.map_cons, nodL_ints, nd_full, List.map_nil, okE_agg, all_c, ck_ints, all_n, Bool.and_self, and_true, cl_agg, hp_assoc, hp_cons, hp_nil, e_lc1, List.getD_cons_zero, nod_lists, e_lenL, hp_len, hp_len_cons, hp_len_nil, true_and]
              refine loop_of (fun i : Nat => i ≤ l.length) (fun i => [.ptr H.length 0, ints tl .no, .ptr (H.length + 3) 0, lists l f0.nd, I l.length, I i]) (fun i => H ++ [.cells [.arr [] .full, .arr [] .full], .cells [lists l f0], .dead, .cells [ints (hd ++ (l.take i).flatten) .own, ints ((List.range (i + 1)).map (cumS hd.length l)) (oF i)]]) (fun i => l.length - i) 0 (by omega) rfl (by simp; rfl) ?_
              intro i hi
              have hfi := take_flat_le l i
              simp only [List.getD_cons_succ, List.getD_cons_zero, nod_imm, nod_lists, nd_nd, nod_ptr, e_add, e_fa, Nat.zero_add, Nat.add_zero, e_ixL, Int.toNat_natCast, nod_cptr, e_ldci, nod_ints, nd_no, e_lM3, lv_cons, lv_nil, Nat.reduceAdd, Nat.reduceLeDiff, e_app, ap_own, nodL_ints, nd_own, vs_0, e_sc3, stV_ints, okE_ints, cl_ints, spl_0, spl_n, vs_s, e_lc3, spl_s, true_and, e_len, bs1, nd_full, oF_ap, List.length_map, e_lA3, dr_0, tk_s, tk_0, nod_agg, List.map_cons, List.map_nil, e_sc0, stV_agg, okE_agg, all_c, ck_ints, all_n, Bool.and_self, and_true, cl_agg, e_rA0, e_lss, e_cond, decide_eq_true_eq]
              split
              · rename_i hlt
                have hlt' : i < l.length := by omega
                have hfi2 := take_flat_le l (i + 1)
                have hts := take_succL l i hlt'
                have hc := cumS_flat hd l (i + 1) (by omega)
                rw [hts] at hfi2 hc
                simp only [List.flatten_append, List.flatten_cons, List.flatten_nil, List.append_nil, List.length_append] at hfi2
                repeat (refine And.intro (by first | (unfold R64; omega) | omega | assumption | (intros; (try simp only [Bool.or_eq_true, Bool.and_eq_true, Bool.not_eq_true', Bool.or_eq_false_iff, Bool.and_eq_false_iff, decide_eq_false_iff_not, decide_eq_true_eq, Bool.not_eq_true, Bool.not_eq_false'] at *); (try unfold R64); omega)) ?_)
                refine ⟨by simp only [List.length_append]; omega, by simp only [List.length_range, List.length_cons, List.length_nil]; omega, (by unfold R64; omega), i + 1, by omega, rfl, ?_, by omega⟩
                have ef : hd ++ (l.take i).flatten ++ l.getD i [] = hd ++ (l.take (i + 1)).flatten := by rw [hts]; simp
                rw [ef]
                rw [← hts] at hc
                rw [← hc, List.range_succ (n := i + 1), List.map_append]
                rfl
              · have : i = l.length := by omega
                subst this
                rw [List.take_length]
                refine And.intro (by simp only [List.length_append]; omega) ?_
                exact end2M
    · have hr : ratioB a b = false := by simpa using hr
      rw [if_pos hr, if_pos (by simp [hr])]
      exact end2N
  · rw [if_pos (by simp [he]), if_pos he]
    exact end2N
end Go.Proofs.Ytehjfjdknllmhaa
