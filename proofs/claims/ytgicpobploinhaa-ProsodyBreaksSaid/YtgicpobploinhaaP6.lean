/- The machinery of the proof, part 6: an abstract machine over list values, proved sound against the model, and the contracts of the functions that the law reaches. No condition. -/
import Derived.Test.YtgicpobploinhaaP5
import Derived.ChangeSame
import Derived.WalkKit
import Derived.ProofKit
import Derived.OpenShut
import Derived.ShutString
import Derived.ChangeOld
import Derived.Below
import Derived.Test.YtgicpobploinhaaProg

set_option linter.unusedVariables false
set_option linter.unusedSimpArgs false
set_option linter.unnecessarySimpa false
set_option maxRecDepth 20000
set_option maxHeartbeats 2000000
namespace Go.Proofs.Ytgicpobploinhaa
open Go Go.Ab Go.Proofs
attribute [local congr] g_bin g_nilS g_nilP g_un g_ext g_bx g_fa g_ld g_st g_ix g_ixA g_slc g_mk g_bs g_bd g_nc g_cv g_len g_lenT g_app g_appB g_cpy g_mm g_call g_callG g_calm g_calmG g_range g_res g_pick g_cond g_loop g_Jv g_eqS g_eqP g_fd g_ixT g_ta g_lkp g_upd g_mkM g_appS g_inv g_callE g_callEG g_invE g_zr g_wr
theorem Ret.weakR {P : Program} {f : Nat} {args args' : List V} {H H' : Hp} {v : V} (h : Ret P f args' H v H') (hl : args.length = args'.length) (hr : ∀ σ w i x, Rel σ w (argF args i) x → Rel σ w (argF args' i) x) (hd : ∀ i, (argF args' i).Nd) (hda : ∀ a, a ∈ args' → a.Nd) : Ret P f args H v H' := by
 refine ⟨h.1, fun σ w ra hlen hst hnd => ?_⟩
 have no : ∀ i j x rb, ¬ OwnB (leafV (argF args' i) j) x rb := fun i j x rb hw => not_own_Nd (hd i) hw
 obtain ⟨s1, o1⟩ := hst.reframe (argF args') ra id (fun i => hr _ _ i _ (hst.frame i)) (fun i j rb ho => (no i j _ rb ho).elim) (fun i i' j j' rb _ _ e => e)
 refine (h.2 σ w ra (hl.symm.trans hlen) s1 hda).mono fun e w' he => ?_
 obtain ⟨x, σ', e1, e2, e3⟩ := he
 exact ⟨x, σ', e1, e2, e3.toLe, e3.os, e3.output, e3.tape, e3.size, fun rb q1 q2 q3 => e3.keep rb q1 q2 (fun q => q3 (o1 rb q)), fun rb q1 q2 => o1 rb (e3.own rb q1 q2), e3.fresh⟩
abbrev tbl : Sou := ⟨[1, 1, 3, 9, 9], 9, [[1], [2], [3], [1, 3]]⟩
abbrev tblF : V := .agg [ints [1, 1, 3, 9, 9] .full, I 9, .arr ([[1], [2], [3], [1, 3]].map fun l => ints l .full) .full]
theorem okE_li (l : List Int) : okE 1 (ints l .full) = True := eq_true ⟨rfl, fun c hc => by
 have : c = ints l .full := by simpa [V.cl, ints] using hc
 subst this; rfl⟩
theorem bs_li4 (z : V) (a b c d : List Int) (K : V → Prop) (k : K (.arr ([a, b, c, d].map fun l => ints l .full) .full)) : aBS 1 4 z [(0, ints a .full), (1, ints b .full), (2, ints c .full), (3, ints d .full)] K := by
 simp only [aBS, aPs, setP, okE_li, and_true]
 exact ⟨⟨by decide, by decide, by decide, by decide⟩, k⟩
theorem bsG {s n : Nat} {z : V} {ps : List (Nat × V)} {K : V → Prop} (L : List V) (h1 : aPs s n ps) (h2 : setP (List.replicate n z) ps = L) (k : K (.arr L .full)) : aBS s n z ps K := ⟨h1, by rw [h2]; exact k⟩
theorem bsI {n : Nat} {z : V} {ps : List (Nat × V)} {K : V → Prop} (l : List Int) (h1 : aPs 1 n ps) (h2 : setP (List.replicate n z) ps = l.map I) (k : K (ints l .full)) : aBS 1 n z ps K := ⟨h1, by rw [h2]; exact k⟩
theorem okE_wd (w : Wd) : okE 5 (wdV w) = True := eq_true ⟨rfl, fun c hc => by
 simp only [V.cl, List.mem_cons, List.not_mem_nil, or_false] at hc
 rcases hc with rfl | rfl | rfl | rfl | rfl <;> rfl⟩
theorem okE_3 (a b c : Int) : okE 3 (.agg [I a, I b, I c]) = True := eq_true ⟨rfl, fun c hc => by
 simp only [V.cl, List.mem_cons, List.not_mem_nil, or_false] at hc
 rcases hc with rfl | rfl | rfl <;> rfl⟩
theorem c48 (H : Hp) : Ret Try.prog 48 [] H tblF H := by
 have z0 : (H ++ [Blk.cells [V.arr [] .full, I 0, .arr [] .full]])[H.length]? = some (.cells [V.arr [] .full, I 0, .arr [] .full]) := tail0 _ _
 have e3 : okE 3 (stV tblF) = True := eq_true ⟨rfl, fun c hc => by
  simp only [stV, V.cl, List.map_cons, List.map_nil, List.mem_cons, List.not_mem_nil, or_false] at hc
  rcases hc with rfl | rfl | rfl <;> rfl⟩
 refine mk48  rfl (Nat.le_refl _) (.inl rfl) ?_
 simp only [vc48, real]
 repeat (first | (with_reducible first | refine Ju.go ?_ | (refine Hd.go ?_; intro K Q hK hQ; simp only [e_bx, okE_agg, lv_cons, List.length_nil, Nat.zero_add, Nat.reduceAdd, all_c, ck_arr, ck_I, all_n, Bool.and_self, and_true, cl_agg, true_and]; subst hK hQ) | refine Jr.go ?_) | refine sd ?_)
 refine bsI [1, 1, 3, 9, 9] (by simp [aPs, okE_I]) rfl ?_
 repeat (first | (with_reducible first | refine Ju.go ?_ | (refine Hd.go ?_; intro K Q hK hQ; simp only [bs1]; subst hK hQ) | refine Jr.go ?_) | refine sd ?_)
 refine bsI [1, 3] (by simp [aPs, okE_I]) rfl ?_
 repeat (first | (with_reducible first | refine Ju.go ?_ | (refine Hd.go ?_; intro K Q hK hQ; simp only [nod_ints, nd_full]; subst hK hQ) | refine Jr.go ?_) | refine sd ?_)
 refine bs_li4 _ [1] [2] [3] [1, 3] _ ?_
 repeat (first | (with_reducible first | refine Ju.go ?_ | (refine Hd.go ?_; intro K Q hK hQ; simp only [nod_ints, nd_full, List.map_cons, List.map_nil, nod_arr, e_bd1, okE_ints, Nat.zero_add, lv_cons, List.length_nil, Nat.reduceAdd, Nat.reduceLeDiff, cl_ints, spl_0, spl_n, okE_I, cl_imm, spl_s, okE_arr, cl_arr, e_bd0, true_and, nod_ptr, own0_ints, e_sc0, stV_agg, nodL_imm, nodL_arr, okE_agg, all_c, ck_ints, ck_I, ck_arr, all_n, Bool.and_self, and_true, cl_agg, e_rA0, dr_0, tk_s, tk_0]; subst hK hQ) | refine Jr.go ?_) | refine sd ?_)
 refine end1A (.keep _ (.agg _ fun c hc => ?_))
 simp only [List.mem_cons, List.not_mem_nil, or_false] at hc
 rcases hc with rfl | rfl | rfl
 ·exact bel_ints _ _ _
 ·exact .imm _
 ·refine .arr _ _ fun c hc => ?_
  have hc' : c ∈ ([[1], [2], [3], [1, 3]] : List (List Int)).map fun l => ints l .full := hc
  obtain ⟨l, -, rfl⟩ := List.mem_map.1 hc'
  exact bel_ints _ _ _
theorem wk_tbl {σ : Sg} {w : World} {x : Value} (h : Rel σ w tblF x) : Rel σ w (souV tbl) x := by
 cases h with
 | agg cs ys hl h0 h1 =>
  refine .agg _ ys hl h0 fun i c hi => ?_
  match i with
  | 0 => cases hi; exact Rel.wkF (h1 0 _ rfl)
  | 1 => cases hi; exact h1 1 _ rfl
  | 2 =>
   cases hi
   exact Rel.wk (h1 2 _ rfl) (.sub ([[1], [2], [3], [1, 3]].map fun l : List Int => l.map I))
  | i + 3 => cases hi
abbrev exPh : List Int := [1, 3, 4, 2, 1, 3, 5, 1]
abbrev exWs : List Wd := [⟨3, 0, 0, false, false⟩, ⟨3, 0, 2, false, false⟩, ⟨3, 0, 0, false, false⟩, ⟨3, 0, 0, false, false⟩]
abbrev exRs : List Rk := [⟨1, 1, 6⟩, ⟨3, 1, 1⟩]
theorem lv35 : lvT Try.prog 10000 35 = some [.int, .int, .int] := by kernel_rfl
theorem gd35 : Try.prog.eqGuardType Try.prog.depth 35 = false := by kernel_rfl
theorem lf35 (x y : Sy3) : lfL [.int, .int, .int] [I x.f, I x.n, I x.t] [I y.f, I y.n, I y.t] = some (decide (x = y)) := by
 cases x; cases y
 simp [lfL, lfE, Bool.decide_and]
theorem eq35 {K : V → Prop} (x y : Sy3) : aEqS Try.prog 35 .eql (syV x) (syV y) K = K (B (decide (x = y))) := by
 refine propext ⟨fun ⟨ls, r, h1, h2, h3, h4⟩ => ?_, fun h => ⟨_, _, lv35, lf35 x y, gd35, h⟩⟩
 obtain rfl : ls = _ := Option.some.inj (h1.symm.trans lv35)
 obtain rfl : r = _ := Option.some.inj (h2.symm.trans (lf35 x y))
 exact h4
theorem c15 (H : Hp) : Ret Try.prog 15 [] H (B true) H := by
 refine mk15  rfl (Nat.le_refl _) (.inl rfl) ?_
 simp only [vc15, real]
 repeat (first | (with_reducible first | refine Ju.go ?_ | (refine Hd.go ?_; intro K Q hK hQ; simp only []; subst hK hQ) | refine Jr.go ?_) | refine sd ?_)
 refine call_of (c48 _) ?_
 repeat (first | (with_reducible first | refine Ju.go ?_ | (refine Hd.go ?_; intro K Q hK hQ; simp only []; subst hK hQ) | refine Jr.go ?_) | refine sd ?_)
 refine bsI exPh (by simp [aPs, okE_I]) rfl ?_
 repeat (first | (with_reducible first | refine Ju.go ?_ | (refine Hd.go ?_; intro K Q hK hQ; simp only [nod_agg, List.map_cons, List.map_nil, nodL_ints, nd_full, nodL_imm, nodL_arr, nod_ints]; subst hK hQ) | refine Jr.go ?_) | refine sd ?_)
 have c := c16 tbl exPh H ⟨by decide, by decide, by decide⟩ (by decide)
 rw [if_pos (by decide)] at c
 have ey : sylP tbl exPh = [⟨0, 2, 4⟩, ⟨4, 6, 8⟩] := by decide +kernel
 rw [ey] at c
 refine call_of (Ret.weakR c rfl (fun σ w i x h => ?_) (fun i => ?_) (fun a ha => ?_)) ?_
 ·match i with
  | 0 => exact wk_tbl h
  | 1 => exact Rel.wkF h
  | i + 2 => exact .junk _
 ·match i with
  | 0 => rfl
  | 1 => rfl
  | i + 2 => rfl
 ·simp only [List.mem_cons, List.not_mem_nil, or_false] at ha
  rcases ha with rfl | rfl <;> rfl
 ·clear c
  repeat (first | (with_reducible first | refine Ju.go ?_ | (refine Hd.go ?_; intro K Q hK hQ; simp only [List.map_cons, List.map_nil, nod_tup, nod2_imm, e_x20, e_x21, e_bd1, okE_B, Nat.zero_add, lv_cons, List.length_nil, Nat.reduceAdd, Nat.reduceLeDiff, cl_imm, spl_0, spl_n, okE_I, spl_s, e_bd0, true_and]; subst hK hQ) | refine Jr.go ?_) | refine sd ?_)
  refine bsG ([true, false, true, false, false].map boV) (by simp [aPs, okE_B]) rfl ?_
  repeat (first | (with_reducible first | refine Ju.go ?_ | (refine Hd.go ?_; intro K Q hK hQ; simp only [nod_agg, List.map_cons, nodL_imm, List.map_nil, nod_arr, nd_full]; subst hK hQ) | refine Jr.go ?_) | refine sd ?_)
  have c := c22 ⟨true, 1, 0, true, 2⟩ [true, false, true, false, false] H (by decide)
  rw [if_pos (by decide), if_neg (by decide)] at c
  have e1 : mnP ⟨true, 1, 0, true, 2⟩ [true, false, true, false, false] = 2 := by decide +kernel
  have e2 : sdP ⟨true, 1, 0, true, 2⟩ [true, false, true, false, false] = [0] := by decide +kernel
  rw [e1, e2] at c
  refine call_of (Ret.weakR c rfl (fun σ w i x h => ?_) (fun i => ?_) (fun a ha => ?_)) ?_
  ·match i with
   | 0 => exact h
   | 1 => exact Rel.wkF h
   | i + 2 => exact .junk _
  ·match i with
   | 0 => rfl
   | 1 => rfl
   | i + 2 => rfl
  ·simp only [List.mem_cons, List.not_mem_nil, or_false] at ha
   rcases ha with rfl | rfl <;> rfl
  ·clear c
   repeat (first | (with_reducible first | refine Ju.go ?_ | (refine Hd.go ?_; intro K Q hK hQ; simp only [Int.cast_ofNat_Int, nod_tup, List.map_cons, nod2_imm, nod2_ints, nd_no, List.map_nil, e_x30, e_x31, e_x32, e_bd1, okE_I, Nat.zero_add, lv_cons, List.length_nil, Nat.reduceAdd, Nat.reduceLeDiff, cl_imm, spl_0, spl_n, e_bd0, true_and, spl_s, nod_agg, nodL_imm]; subst hK hQ) | refine Jr.go ?_) | refine sd ?_)
   refine bsG (exWs.map wdV) (by simp only [aPs]; exact ⟨by decide, (okE_wd ⟨3, 0, 0, false, false⟩).symm ▸ trivial, by decide, (okE_wd ⟨3, 0, 2, false, false⟩).symm ▸ trivial, by decide, (okE_wd ⟨3, 0, 0, false, false⟩).symm ▸ trivial, by decide, (okE_wd ⟨3, 0, 0, false, false⟩).symm ▸ trivial, trivial⟩) rfl ?_
   repeat (first | (with_reducible first | refine Ju.go ?_ | (refine Hd.go ?_; intro K Q hK hQ; simp only [e_bd1, okE_I, Nat.zero_add, lv_cons, List.length_nil, Nat.reduceAdd, Nat.reduceLeDiff, cl_imm, spl_0, spl_n, spl_s, e_bd0, true_and, nod_agg, List.map_cons, nodL_imm, List.map_nil]; subst hK hQ) | refine Jr.go ?_) | refine sd ?_)
   refine bsG (exRs.map rkV) (by simp only [aPs, okE_3]; decide) rfl ?_
   repeat (first | (with_reducible first | refine Ju.go ?_ | (refine Hd.go ?_; intro K Q hK hQ; simp only [List.map_cons, List.map_nil, nod_arr, nd_full]; subst hK hQ) | refine Jr.go ?_) | refine sd ?_)
   have c := c26 exWs exRs H (by decide) (by decide) (by decide)
   rw [if_pos (by decide +kernel)] at c
   have e1 : brk (srF exWs exRs) (exWs.length - 1) s0 = [0, 1, 0] := by decide +kernel
   have e2 : (bst (srF exWs exRs) s0).1 = [0, 0] := by decide +kernel
   rw [e1, e2] at c
   refine call_of (Ret.weakR c rfl (fun σ w i x h => ?_) (fun i => ?_) (fun a ha => ?_)) ?_
   ·match i with
    | 0 => exact Rel.wkF h
    | 1 => exact Rel.wkF h
    | i + 2 => exact .junk _
   ·match i with
    | 0 => rfl
    | 1 => rfl
    | i + 2 => rfl
   ·simp only [List.mem_cons, List.not_mem_nil, or_false] at ha
    rcases ha with rfl | rfl <;> rfl
   ·clear c
    repeat (first | (with_reducible first | refine Ju.go ?_ | (refine Hd.go ?_; intro K Q hK hQ; simp only [nod_tup, List.map_cons, nod2_ints, nd_no, nod2_imm, List.map_nil, e_x30, e_x31, e_x32, List.getD_cons_zero, List.getD_cons_succ, e_bd1, okE_I, Nat.zero_add, lv_cons, List.length_nil, Nat.reduceAdd, Nat.reduceLeDiff, cl_imm, spl_0, spl_n, spl_s, okE_B, e_bd0, true_and, nod_agg, nodL_imm]; subst hK hQ) | refine Jr.go ?_) | refine sd ?_)
    refine bsG (([⟨1, 0, 150⟩, ⟨4, 0, 200⟩] : List Drl).map drV) (by simp only [aPs, okE_3]; decide) rfl ?_
    repeat (first | (with_reducible first | refine Ju.go ?_ | (refine Hd.go ?_; intro K Q hK hQ; simp only [nod_agg, List.map_cons, nodL_imm, List.map_nil, nod_arr, nd_full]; subst hK hQ) | refine Jr.go ?_) | refine sd ?_)
    have c := c31 ⟨100, 40, true, false, 0, 0⟩ [⟨1, 0, 150⟩, ⟨4, 0, 200⟩] H (by decide)
    rw [if_pos (by decide +kernel)] at c
    have e1 : durP ⟨100, 40, true, false, 0, 0⟩ [⟨1, 0, 150⟩, ⟨4, 0, 200⟩] = 130 := by decide +kernel
    rw [e1] at c
    refine call_of (Ret.weakR c rfl (fun σ w i x h => ?_) (fun i => ?_) (fun a ha => ?_)) ?_
    ·match i with
     | 0 => exact h
     | 1 => exact Rel.wkF h
     | i + 2 => exact .junk _
    ·match i with
     | 0 => rfl
     | 1 => rfl
     | i + 2 => rfl
    ·simp only [List.mem_cons, List.not_mem_nil, or_false] at ha
     rcases ha with rfl | rfl <;> rfl
    ·clear c
     repeat (first | (with_reducible first | refine Ju.go ?_ | (refine Hd.go ?_; intro K Q hK hQ; simp only [nod_tup, List.map_cons, nod2_imm, List.map_nil, e_x20, e_x21]; subst hK hQ) | refine Jr.go ?_) | refine sd ?_)
     refine bsI [100, 100] (by simp [aPs, okE_I]) rfl ?_
     repeat (first | (with_reducible first | refine Ju.go ?_ | (refine Hd.go ?_; intro K Q hK hQ; simp only []; subst hK hQ) | refine Jr.go ?_) | refine sd ?_)
     refine bsI [0, 0] (by simp [aPs, okE_I]) rfl ?_
     repeat (first | (with_reducible first | refine Ju.go ?_ | (refine Hd.go ?_; intro K Q hK hQ; simp only []; subst hK hQ) | refine Jr.go ?_) | refine sd ?_)
     refine bsI [1, 3] (by simp [aPs, okE_I]) rfl ?_
     repeat (first | (with_reducible first | refine Ju.go ?_ | (refine Hd.go ?_; intro K Q hK hQ; simp only [nod_ints, nd_full]; subst hK hQ) | refine Jr.go ?_) | refine sd ?_)
     have c := c35 [100, 100] [0, 0] [1, 3] 240 H (by decide) (by decide) (by decide)
     have e1 : strV [100, 100] [0, 0] [1, 3] 240 = .tup [ints [130, 110] .no, I 0] := by
      unfold strV
      rw [if_pos (by decide +kernel)]
      have : strP [100, 100] [0, 0] [1, 3] 240 = some [130, 110] := by decide +kernel
      rw [this]
     rw [e1] at c
     refine call_of (Ret.weakR c rfl (fun σ w i x h => ?_) (fun i => ?_) (fun a ha => ?_)) ?_
     ·match i with
      | 0 => exact Rel.wkF h
      | 1 => exact Rel.wkF h
      | 2 => exact Rel.wkF h
      | 3 => exact h
      | i + 4 => exact .junk _
     ·match i with
      | 0 => rfl
      | 1 => rfl
      | 2 => rfl
      | 3 => rfl
      | i + 4 => rfl
     ·simp only [List.mem_cons, List.not_mem_nil, or_false] at ha
      rcases ha with rfl | rfl | rfl | rfl <;> rfl
     ·clear c
      have n2 : ∀ xs : List V, (V.arr xs .no).nod2 = .arr xs .no := fun _ => rfl
      have n1 : ∀ xs : List V, (V.arr xs .no).nod = .arr xs .no := fun _ => rfl
      have g0 : ([syV ⟨0, 2, 4⟩, syV ⟨4, 6, 8⟩] : List V).getD (Int.toNat 0) .junk = syV ⟨0, 2, 4⟩ := rfl
      have g1 : ([syV ⟨0, 2, 4⟩, syV ⟨4, 6, 8⟩] : List V).getD (Int.toNat 1) .junk = syV ⟨4, 6, 8⟩ := rfl
      have g2 : (syV ⟨0, 2, 4⟩).cl.length = 3 := rfl
      have g3 : (syV ⟨4, 6, 8⟩).cl.length = 3 := rfl
      repeat (first | (with_reducible first | refine Ju.go ?_ | (refine Hd.go ?_; intro K Q hK hQ; simp only [nod_tup, List.map_cons, nod2_ints, nd_no, nod2_imm, List.map_nil, e_x20, e_x21, n2, List.getD_cons_zero, List.getD_cons_succ, nod_imm, e_neq, decide_true, Bool.not_true, e_gF, cond_false, j_one, n1, e_lenA, lv_cons, List.length_nil, Nat.zero_add, Nat.reduceAdd, Int.cast_ofNat_Int, Try.underlying3, e_cond, Bool.false_eq_true, if_false, nod_cptr, e_bd1, okE_I, Nat.reduceLeDiff, cl_imm, spl_0, spl_n, spl_s, e_bd0, true_and, nod_agg, nodL_imm]; subst hK hQ) | refine Jr.go ?_) | refine sd ?_)
      refine Eq.mpr (eq35 ⟨0, 2, 4⟩ ⟨0, 2, 4⟩) ?_
      repeat (first | (with_reducible first | refine Ju.go ?_ | (refine Hd.go ?_; intro K Q hK hQ; simp only [decide_true, nod_imm, List.getD_cons_zero, nod_arr, nd_no, e_bd1, okE_I, Nat.zero_add, lv_cons, List.length_nil, Nat.reduceAdd, Nat.reduceLeDiff, cl_imm, spl_0, spl_n, spl_s, e_bd0, nod_agg, List.map_cons, nodL_imm, List.map_nil, true_and, e_gT, cond_true, nod_cptr]; subst hK hQ) | refine Jr.go ?_) | refine sd ?_)
      refine Eq.mpr (eq35 ⟨4, 6, 8⟩ ⟨4, 6, 8⟩) ?_
      repeat (first | (with_reducible first | refine Ju.go ?_ | (refine Hd.go ?_; intro K Q hK hQ; simp only [decide_true, nod_imm, List.getD_cons_succ, List.getD_cons_zero, Try.underlying3, e_eql, e_gT, cond_true, j_one, nod_ints, nd_no, bs1, nd_full]; subst hK hQ) | refine Jr.go ?_) | refine sd ?_)
      refine call_of (c25 [0] [0] .no .full H (by decide) (.inl rfl) (.inr rfl)) ?_
      rw [decide_eq_true rfl]
      repeat (first | (with_reducible first | refine Ju.go ?_ | (refine Hd.go ?_; intro K Q hK hQ; simp only [nod_imm, List.getD_cons_succ, List.getD_cons_zero, nod_ints, nd_no, e_gT, cond_true]; subst hK hQ) | refine Jr.go ?_) | refine sd ?_)
      refine bsI [0, 1, 0] (by simp [aPs, okE_I]) rfl ?_
      repeat (first | (with_reducible first | refine Ju.go ?_ | (refine Hd.go ?_; intro K Q hK hQ; simp only [nod_ints, nd_full]; subst hK hQ) | refine Jr.go ?_) | refine sd ?_)
      refine call_of (c25 [0, 1, 0] [0, 1, 0] .no .full H (by decide) (.inl rfl) (.inr rfl)) ?_
      rw [decide_eq_true rfl]
      repeat (first | (with_reducible first | refine Ju.go ?_ | (refine Hd.go ?_; intro K Q hK hQ; simp only [nod_imm, List.getD_cons_succ, List.getD_cons_zero, nod_ints, nd_no, e_gT, cond_true]; subst hK hQ) | refine Jr.go ?_) | refine sd ?_)
      refine bsI [0, 0] (by simp [aPs, okE_I]) rfl ?_
      repeat (first | (with_reducible first | refine Ju.go ?_ | (refine Hd.go ?_; intro K Q hK hQ; simp only [nod_ints, nd_full]; subst hK hQ) | refine Jr.go ?_) | refine sd ?_)
      refine call_of (c25 [0, 0] [0, 0] .no .full H (by decide) (.inl rfl) (.inr rfl)) ?_
      rw [decide_eq_true rfl]
      repeat (first | (with_reducible first | refine Ju.go ?_ | (refine Hd.go ?_; intro K Q hK hQ; simp only [nod_imm, List.getD_cons_succ, List.getD_cons_zero, Try.underlying3, e_eql, decide_true, e_gT, cond_true, j_one, nod_ints, nd_no]; subst hK hQ) | refine Jr.go ?_) | refine sd ?_)
      refine bsI [130, 110] (by simp [aPs, okE_I]) rfl ?_
      repeat (first | (with_reducible first | refine Ju.go ?_ | (refine Hd.go ?_; intro K Q hK hQ; simp only [nod_ints, nd_full]; subst hK hQ) | refine Jr.go ?_) | refine sd ?_)
      refine call_of (c25 [130, 110] [130, 110] .no .full H (by decide) (.inl rfl) (.inr rfl)) ?_
      rw [decide_eq_true rfl]
      repeat (first | (with_reducible first | refine Ju.go ?_ | (refine Hd.go ?_; intro K Q hK hQ; simp only [nod_imm]; subst hK hQ) | refine Jr.go ?_) | refine sd ?_)
      exact end1 (fzI _)
theorem argF_nd {args : List V} (hn : ∀ a, a ∈ args → a.Nd) (i : Nat) : (argF args i).Nd := by
 unfold argF
 rw [List.getD_eq_getElem?_getD]
 cases h : args[i]? with
 | none => rfl
 | some v => exact hn v (List.mem_of_getElem? h)
def sg0 (w : World) : Sg := ⟨0, fun _ => 0, fun rb => (cellsAt w rb).size⟩
theorem bridge {P : Program} {f : Nat} {args : List V} {ra : Array Value} {w : World} (h : Ret P f args [] (B true) []) (hl : args.length = ra.size) (hn : ∀ a, a ∈ args → a.Nd)
    (hr : ∀ i, Rel (sg0 w) w (argF args i) (ra.getD i undef)) : Calls P f ra w fun e w' => e = .returned (.bool true) ∧ Go.RowKit.Below w.heap.size w w' := by
  have no : ∀ (p : Go.Ab.Pl) (x : Value) (rb : Nat), ¬ OwnB (Go.Ab.pv (argF args) [] p) x rb := by
    intro p x rb ho
    cases p with
    | s i j => exact not_own_Nd (argF_nd hn i) ho
    | h b j => exact not_own_junk ho
  have st : St (sg0 w) w (argF args) ra [] :=
    { frame := hr
      hn := rfl
      heap := fun b blk hb => by simp at hb
      inj := fun b b' blk blk' hb => by simp at hb
      lt := fun b hb => absurd hb (Nat.not_lt_zero _)
      tip0 := fun b blk hb => by simp at hb
      tipz := fun rb hb => by
        show (cellsAt w rb).size = 0
        have : w.heap[rb]? = none := Array.getElem?_eq_none hb
        unfold cellsAt
        rw [this]
        rfl
      own1 := fun p rb ho => absurd ho (no _ _ _)
      own2 := fun p q rb ho => absurd ho (no _ _ _) }
  refine (h.2 (sg0 w) w ra hl st hn).mono fun e w' he => ?_
  obtain ⟨x, σ', rfl, s2, t⟩ := he
  refine ⟨?_, t.os, t.tape, t.output, t.size, fun k hk => (t.keep k hk ?_ ?_).1⟩
  · have := s2.frame 0
    have h2 : Rel σ' w' (B true) x := this
    cases h2
    rfl
  · rintro ⟨b, hb, -⟩
    exact Nat.not_lt_zero _ hb
  · rintro ⟨p, ho⟩
    exact no _ _ _ ho
theorem cells_lt {w : World} {rb off : Nat} {y : Value} (h : w.cell? ⟨rb, off, none⟩ = some y) : off < (sg0 w).tip rb := by
 show off < (cellsAt w rb).size
 unfold World.cell? at h
 unfold cellsAt
 split at h
 ·rename_i c e fz hc
  rw [hc]
  simp only [Option.isSome_none, Bool.false_eq_true, if_false] at h
  exact (Array.getElem?_eq_some_iff.1 h).1
 ·cases h
open Go.ChangeShapes Go.WideShapes Go.ChangeAt Go.RowKit
def CR (W : World) (us : List V) (cs : List Value) : Prop := us.length = cs.length ∧ ∀ (i : Nat) (u : V) (c : Value), us[i]? = some u → cs[i]? = some c → Rel (sg0 W) W u c ∧ c.oneCell' = true
def Opens {H α : Type} (enc : TypeId × Value → H) (W : World) (t : TypeId) (f : α → V) : Prop := ∀ n cs y, DataW.trod enc Try.prog W 0 (fun _ => true) true n t cs = some y → ∃ x : α, CR W (f x).cl cs
theorem cr1 {W : World} {u : V} {c : Value} (h : Rel (sg0 W) W u c) (o : c.oneCell' = true) : CR W [u] [c] := by
 refine ⟨rfl, fun i u' c' hu hc => ?_⟩
 match i with
 | 0 => cases hu; cases hc; exact ⟨h, o⟩
 | i + 1 => simp at hu
theorem cr1' {W : World} {u : V} {c : Value} (h : CR W [u] [c]) : Rel (sg0 W) W u c ∧ c.oneCell' = true := h.2 0 u c rfl rfl
theorem cr_nil {W : World} : CR W [] [] := ⟨rfl, fun i u c h => by simp at h⟩
theorem cr_cons {W : World} {u : V} {us : List V} {c : Value} {cs : List Value} (h : CR W [u] [c]) (k : CR W us cs) : CR W (u :: us) (c :: cs) := by
 refine ⟨by simp [k.1], fun i u' c' hu hc => ?_⟩
 match i with
 | 0 => simp at hu hc; subst hu hc; exact cr1' h
 | i + 1 => simp at hu hc; exact k.2 i u' c' hu hc
theorem opens_int {H : Type} {enc : TypeId × Value → H} {W : World} {t : TypeId} (ht : Try.prog.underlying t = some (.int .i64)) : Opens enc W t I := fun n cs y h => by
 obtain ⟨m, rfl, -, -⟩ := DataW.trod_int ht h
 exact ⟨m, cr1 (.imm _) rfl⟩
theorem cell_spot {w : World} {a : Addr} {y : Value} (h : w.cell? a = some y) : a.spot = none := by
 unfold World.cell? at h
 split at h
 ·cases hs : a.spot with
  | none => rfl
  | some k => rw [hs] at h; simp at h
 ·cases h
theorem add_none (b off k : Nat) : (⟨b, off, none⟩ : Addr).add k = ⟨b, off + k, none⟩ := by unfold Addr.add; split <;> simp_all
theorem flat_atB {α : Type} {f : α → V} {s : Nat} (hs : 0 < s) (hf : ∀ x, (f x).cl.length = s) : ∀ (l : List α) (j : Nat) (c : V), ((l.map f).flatMap V.cl)[j]? = some c → ∃ x, l[j / s]? = some x ∧ (f x).cl[j % s]? = some c
 | [], j, c, h => by simp at h
 | x :: l, j, c, h => by
  rw [List.map_cons, List.flatMap_cons] at h
  by_cases hj : j < s
  ·rw [List.getElem?_append_left (by rw [hf]; exact hj)] at h
   exact ⟨x, by rw [Nat.div_eq_of_lt hj]; rfl, by rw [Nat.mod_eq_of_lt hj]; exact h⟩
  ·rw [List.getElem?_append_right (by rw [hf]; omega), hf] at h
   obtain ⟨y, h1, h2⟩ := flat_atB hs hf l (j - s) c h
   have hj : s ≤ j := by omega
   refine ⟨y, ?_, by rw [Nat.mod_eq_sub_mod hj]; exact h2⟩
   rw [Nat.div_eq_sub_div hs hj]; exact h1
theorem fields {H : Type} {enc : TypeId × Value → H} {W : World} {t : TypeId} {fs : Array Field} {n : Nat} {cs : List Value} {y : DataW H × List MemPlace} (ht : Try.prog.underlying t = some (.struct fs)) (h : DataW.trod enc Try.prog W 0 (fun _ => true) true n t cs = some y) :
    cs.length = Try.prog.cellsOf t ∧ ∀ (i : Nat) (f : Field), fs[i]? = some f → ∃ m z, DataW.trod enc Try.prog W 0 (fun _ => true) true m f.type ((cs.drop f.offset).take (Try.prog.cellsOf f.type)) = some z := by
  obtain ⟨xs, m, -, -, hl, hlen, hf⟩ := DataW.trod_struct ht h
  refine ⟨hl, fun i f hi => ?_⟩
  have h1 := hf i f hi
  have : i < xs.length := by rw [hlen]; exact (Array.getElem?_eq_some_iff.1 hi).1
  exact ⟨m, _, h1.trans (List.getElem?_eq_getElem this)⟩
theorem k3 : Try.prog.cellsOf 3 = 1 := by kernel_rfl
theorem one {H α : Type} {enc : TypeId × Value → H} {W : World} {t : TypeId} {f : α → V} (ho : Opens enc W t f) {c : Value} (hc : ∀ x, (f x).cl = [f x]) (h : ∃ m z, DataW.trod enc Try.prog W 0 (fun _ => true) true m t [c] = some z) : ∃ x, CR W [f x] [c] := by
 obtain ⟨m, z, h⟩ := h
 obtain ⟨x, hx⟩ := ho _ _ _ h
 rw [hc] at hx
 exact ⟨x, hx⟩
theorem fld1 {H : Type} {enc : TypeId × Value → H} {W : World} {t o : Nat} {cs : List Value} {c : Value} (h : ∃ m z, DataW.trod enc Try.prog W 0 (fun _ => true) true m t ((cs.drop o).take (Try.prog.cellsOf t)) = some z) (k : Try.prog.cellsOf t = 1) (hc : cs[o]? = some c) : ∃ m z, DataW.trod enc Try.prog W 0 (fun _ => true) true m t [c] = some z := by
 obtain ⟨hl, rfl⟩ := List.getElem?_eq_some_iff.1 hc
 rw [k, List.drop_eq_getElem_cons hl] at h
 exact h
theorem opens_sliceB {H α : Type} {enc : TypeId × Value → H} {W : World} {t e : TypeId} {f : α → V} {s : Nat} (ht : Try.prog.underlying t = some (.slice e)) (hs : 0 < s) (hc : Try.prog.cellsOf e = s) (hf : ∀ x, (f x).cl.length = s ∧ (f x).Nd) (he : Opens enc W e f) :
    Opens enc W t (fun l : {l : List α // l.length ≤ maxLen} => .arr (l.1.map f) .no) := fun n cs y h => by
  rcases DataW.trod_slice ht h with ⟨rfl, -⟩ | ⟨a, len, cap, elems, rest, m, -, rfl, -, hb, hl, hm, hlen, hel, hre, -⟩
  · exact ⟨⟨[], Nat.zero_le _⟩, cr1 (.arr0 _ _ _ (fun h => by cases h) ⟨fun ad h => (by cases h), fun _ => rfl⟩) rfl⟩
  · rw [hc] at hel hre
    have go : ∀ (k : Nat) (z : DataW H × List MemPlace), (W.cells? 0 (a.add (k * s)) s).bind (DataW.trod enc Try.prog W 0 (fun _ => true) true m e) = some z → ∃ (x : α) (C : List Value), (∀ j, j < s → W.cell? ((a.add (k * s)).add j) = C[j]?) ∧ C.length = s ∧ CR W (f x).cl C := fun k z hz => by
      obtain ⟨C, h1, h2⟩ := Option.bind_eq_some_iff.1 hz
      obtain ⟨-, h3, h4⟩ := World.cells?_some h1
      obtain ⟨x, hx⟩ := he _ _ _ h2
      exact ⟨x, C, h4, h3, hx⟩
    have spot : cap = 0 ∨ a.spot = none := by
      by_cases h0 : cap = 0
      · exact .inl h0
      · refine .inr ?_
        have pick : ∃ z, (W.cells? 0 (a.add (0 * s)) s).bind (DataW.trod enc Try.prog W 0 (fun _ => true) true m e) = some z := by
          by_cases hl0 : 0 < len
          · exact ⟨_, (hel 0 hl0).trans (List.getElem?_eq_getElem (by omega))⟩
          · obtain rfl : len = 0 := by omega
            have := hre rfl
            exact ⟨_, (this.2 0 (by omega)).trans (List.getElem?_eq_getElem (by omega))⟩
        obtain ⟨z, hz⟩ := pick
        obtain ⟨x, C, h1, h2, -⟩ := go 0 z hz
        have h3 := h1 0 hs
        rw [List.getElem?_eq_getElem (by omega)] at h3
        rw [show (a.add (0 * s)).add 0 = a by simp [Addr.add]] at h3
        exact cell_spot h3
    have key : ∀ k, k ≤ len → ∃ l : List α, l.length = k ∧ ∃ C : Nat → List Value, ∀ i, i < k → (C i).length = s ∧ (∀ j, j < s → W.cell? ((a.add (i * s)).add j) = (C i)[j]?) ∧ ∀ x, l[i]? = some x → CR W (f x).cl (C i) := fun k => by
      induction k with
      | zero => exact fun _ => ⟨[], rfl, fun _ => [], fun i hi => absurd hi (Nat.not_lt_zero i)⟩
      | succ k ih =>
        intro hk
        obtain ⟨l, hll, C, hC⟩ := ih (by omega)
        obtain ⟨x, D, d1, d2, d3⟩ := go k _ ((hel k (by omega)).trans (List.getElem?_eq_getElem (by omega)))
        refine ⟨l ++ [x], by simp [hll], fun i => if i = k then D else C i, fun i hi => ?_⟩
        by_cases e : i = k
        · subst e
          simp only [if_true]
          refine ⟨d2, d1, fun x' hx => ?_⟩
          rw [List.getElem?_append_right (by omega), hll, Nat.sub_self] at hx
          cases hx
          exact d3
        · simp only [if_neg e]
          obtain ⟨c1, c2, c3⟩ := hC i (by omega)
          refine ⟨c1, c2, fun x' hx => c3 x' ?_⟩
          rw [List.getElem?_append_left (by omega)] at hx
          exact hx
    obtain ⟨l, hll, C, hC⟩ := key len (Nat.le_refl _)
    refine ⟨⟨l, by rw [hll]; exact Nat.le_trans hl hm⟩, cr1 ?_ rfl⟩
    show Rel _ _ (.arr (l.map f) .no) _
    by_cases h0 : len = 0
    · subst h0
      obtain rfl : l = [] := List.length_eq_zero_iff.1 hll
      refine .arr0 _ _ _ (fun h => by cases h) ⟨fun ad h => ?_, fun h => by cases h⟩
      cases h
      exact spot.symm
    · have hsp := spot.resolve_left (by omega)
      obtain ⟨b, off, sp⟩ := a
      cases hsp
      refine .arr _ .no b off len cap s (fun j => (C (j / s)).getD (j % s) undef) ?_ (by rw [List.length_map, hll]) hl (fun h => by cases h) hs ?_ ?_ ?_
      · intro h
        have := congrArg List.length h
        rw [List.length_map, hll] at this
        exact h0 this
      · intro z hz
        obtain ⟨x, -, rfl⟩ := List.mem_map.1 hz
        exact hf x
      all_goals
        intro j c hj
        obtain ⟨x, hx, hcx⟩ := flat_atB hs (fun x => (hf x).1) l j c hj
        have hjl : j / s < len := by rw [← hll]; exact (List.getElem?_eq_some_iff.1 hx).1
        obtain ⟨c1, c2, c3⟩ := hC (j / s) hjl
        have hmod := Nat.mod_lt j hs
        have hg : (C (j / s))[j % s]? = some ((C (j / s)).getD (j % s) undef) := by rw [List.getD_eq_getElem?_getD, List.getElem?_eq_getElem (by omega)]; rfl
        obtain ⟨r1, r2⟩ := (c3 x hx).2 _ _ _ hcx hg
      · have c4 := c2 (j % s) hmod
        rw [add_none, add_none, Nat.add_assoc, Nat.mul_comm, Nat.div_add_mod, hg] at c4
        exact ⟨cells_lt c4, c4, r2⟩
      · exact r1
theorem mx : maxLen = 9223372036854775807 := rfl
theorem opens3 {H : Type} {enc : TypeId × Value → H} {W : World} : Opens enc W 3 I := opens_int Try.underlying3
theorem opens4 {H : Type} {enc : TypeId × Value → H} {W : World} : Opens enc W 4 (fun b : Bool => boV b) := fun n cs y h => by
 obtain ⟨b, rfl, -⟩ := DataW.trod_bool Try.underlying4 h
 exact ⟨b, cr1 (.imm _) rfl⟩
theorem k4 : Try.prog.cellsOf 4 = 1 := by kernel_rfl
theorem in_one {H α : Type} {enc : TypeId × Value → H} {W : World} {base : Nat} {t e : TypeId} {v : Value} {d : DataW H} {p : List MemPlace} {f : α → V} (ht : Try.prog.underlying t = some (.slice e)) (ho : Opens enc W t f) (hcl : ∀ x, (f x).cl = [f x]) (hv : Value.okWide Try.prog W .any base t v)
    (hA : DataW.Trod enc Try.prog W 0 (fun _ => true) true t v d p) : ∃ x : α, Rel (sg0 W) W (f x) v := by
  obtain ⟨a, len, cap, rfl⟩ := okWide_slice ht hv
  obtain ⟨fuel, hf⟩ := hA
  obtain ⟨l, hl⟩ := ho _ _ _ hf
  rw [hcl] at hl
  exact ⟨l, (cr1' hl).1⟩
def wdL (x : Wd) : List V := [I x.sy, I x.st, I x.gp, B x.fo, B x.co]
theorem opens95 {H : Type} {enc : TypeId × Value → H} {W : World} : Opens enc W 95 fun x : Wd => .agg (wdL x) := fun n cs y h => by
 obtain ⟨hl, hf⟩ := fields Try.underlying95 h
 rw [show Try.prog.cellsOf 95 = 5 by kernel_rfl] at hl
 match cs, hl with
 | [c0, c1, c2, c3, c4], _ =>
  obtain ⟨a0, h0⟩ := one (opens3 (enc := enc)) (fun _ => rfl) (fld1 (hf 0 _ rfl) k3 rfl)
  obtain ⟨a1, h1⟩ := one (opens3 (enc := enc)) (fun _ => rfl) (fld1 (hf 1 _ rfl) k3 rfl)
  obtain ⟨a2, h2⟩ := one (opens3 (enc := enc)) (fun _ => rfl) (fld1 (hf 2 _ rfl) k3 rfl)
  obtain ⟨a3, h3⟩ := one (opens4 (enc := enc)) (fun _ => rfl) (fld1 (hf 3 _ rfl) k4 rfl)
  obtain ⟨a4, h4⟩ := one (opens4 (enc := enc)) (fun _ => rfl) (fld1 (hf 4 _ rfl) k4 rfl)
  exact ⟨⟨a0, a1, a2, a3, a4⟩, (cr_cons h0 (cr_cons h1 (cr_cons h2 (cr_cons h3 (cr_cons h4 cr_nil)))))⟩
theorem opens47 {H : Type} {enc : TypeId × Value → H} {W : World} : Opens enc W 47 fun l : {l : List Wd // l.length ≤ maxLen} => .arr (l.1.map wdV) .no := opens_sliceB (s := 5) Try.underlying47 (by decide) (by kernel_rfl) (fun x => ⟨rfl, rfl⟩) opens95
theorem in_words {H : Type} {enc : TypeId × Value → H} {W : World} {base : Nat} {v : Value} {d : DataW H} {p : List MemPlace} (hv : Value.okWide Try.prog W .any base 47 v) (hA : DataW.Trod enc Try.prog W 0 (fun _ => true) true 47 v d p) : ∃ l : List Wd, l.length ≤ 9223372036854775807 ∧ Rel (sg0 W) W (.arr (l.map wdV) .no) v := by
 obtain ⟨x, hx⟩ := in_one Try.underlying47 (opens47 (enc := enc)) (fun _ => rfl) hv hA
 exact ⟨x.1, x.2, hx⟩
def rkL (x : Rk) : List V := [I x.k, I x.l, I x.b]
theorem opens98 {H : Type} {enc : TypeId × Value → H} {W : World} : Opens enc W 98 fun x : Rk => .agg (rkL x) := fun n cs y h => by
 obtain ⟨hl, hf⟩ := fields Try.underlying98 h
 rw [show Try.prog.cellsOf 98 = 3 by kernel_rfl] at hl
 match cs, hl with
 | [c0, c1, c2], _ =>
  obtain ⟨a0, h0⟩ := one (opens_int (enc := enc) Try.underlying96) (fun _ => rfl) (fld1 (hf 0 _ rfl) (show Try.prog.cellsOf 96 = 1 by kernel_rfl) rfl)
  obtain ⟨a1, h1⟩ := one (opens3 (enc := enc)) (fun _ => rfl) (fld1 (hf 1 _ rfl) k3 rfl)
  obtain ⟨a2, h2⟩ := one (opens3 (enc := enc)) (fun _ => rfl) (fld1 (hf 2 _ rfl) k3 rfl)
  exact ⟨⟨a0, a1, a2⟩, (cr_cons h0 (cr_cons h1 (cr_cons h2 cr_nil)))⟩
theorem opens48 {H : Type} {enc : TypeId × Value → H} {W : World} : Opens enc W 48 fun l : {l : List Rk // l.length ≤ maxLen} => .arr (l.1.map rkV) .no := opens_sliceB (s := 3) Try.underlying48 (by decide) (by kernel_rfl) (fun x => ⟨rfl, rfl⟩) opens98
theorem in_ranks {H : Type} {enc : TypeId × Value → H} {W : World} {base : Nat} {v : Value} {d : DataW H} {p : List MemPlace} (hv : Value.okWide Try.prog W .any base 48 v) (hA : DataW.Trod enc Try.prog W 0 (fun _ => true) true 48 v d p) : ∃ l : List Rk, l.length ≤ 9223372036854775807 ∧ Rel (sg0 W) W (.arr (l.map rkV) .no) v := by
 obtain ⟨x, hx⟩ := in_one Try.underlying48 (opens48 (enc := enc)) (fun _ => rfl) hv hA
 exact ⟨x.1, x.2, hx⟩
end Go.Proofs.Ytgicpobploinhaa
set_option maxHeartbeats 4000000
namespace Go.Proofs.Ytgicpobploinhaa
open Go Go.Ab Go.Proofs
def an29 : An := { imm := [], jn := [(4, [0, 1, 6, 7, 8]), (6, [0, 1, 6, 7, 8, 9]), (8, [0, 1, 6, 7, 8, 9, 10])], lp := [(5, [0, 1, 6, 7, 8, 9])], loud := [], ord := [] }
def vc29 (C : Cb) (a0 a1 : V) (H : Hp) (R : List V → Hp → Prop) : Prop :=
 C.aLen a0.nod.nod fun v1 =>
 C.callE 65 [v1.nod] H fun v2 H3 =>
 C.aIx 1 v2.nod.nod (I 0) fun v4 =>
 C.aLd 1 false false v4.nod H3 fun v5 H6 =>
 Jn (fun l7 H8 =>
 LoopA (fun l10 H11 K12 =>
 C.aLen (l10.getD 2 .junk).nod.nod fun v13 =>
 C.aBin (Try.prog.underlying 3) .lss (l10.getD 5 .junk).nod.nod v13.nod fun v14 =>
 aCond v14.nod (
 Jn (fun l15 H16 =>
 C.aBin (Try.prog.underlying 3) .add (l15.getD 5 .junk).nod.nod (I 1) fun v18 =>
 K12 [(l15.getD 0 .junk), (l15.getD 1 .junk), (l15.getD 2 .junk), (l15.getD 3 .junk), (l15.getD 4 .junk), v18] H16)
 (fun R17 =>
 Jn (fun l19 H20 =>
 C.callE 44 [(l19.getD 6 .junk).nod.nod, (l19.getD 4 .junk).nod.nod] H20 fun v22 H23 =>
 aCond v22.nod (
 C.aIx 1 (l19.getD 2 .junk).nod.nod (l19.getD 5 .junk).nod.nod fun v24 =>
 C.aLd 1 false false v24.nod H23 fun v25 H26 =>
 R17 [(l19.getD 0 .junk), (l19.getD 1 .junk), (l19.getD 2 .junk), v25, (l19.getD 6 .junk).nod, (l19.getD 5 .junk)] H26) (
 R17 [(l19.getD 0 .junk), (l19.getD 1 .junk), (l19.getD 2 .junk), (l19.getD 3 .junk), (l19.getD 4 .junk), (l19.getD 5 .junk)] H23))
 (fun R21 =>
 C.aIx 1 (l10.getD 2 .junk).nod.nod (l10.getD 5 .junk).nod.nod fun v27 =>
 C.aLd 1 false false v27.nod H11 fun v28 H29 =>
 C.callE 41 [(l10.getD 0 .junk).nod.nod, (l10.getD 1 .junk).nod.nod, v28.nod] H29 fun v30 H31 =>
 R21 [(l10.getD 0 .junk), (l10.getD 1 .junk), (l10.getD 2 .junk), (l10.getD 3 .junk), (l10.getD 4 .junk), (l10.getD 5 .junk), v30] H31))) (
 R [(l10.getD 3 .junk).nod, (l10.getD 4 .junk).nod] H11))
 [(l7.getD 0 .junk), (l7.getD 1 .junk), (l7.getD 2 .junk), (l7.getD 3 .junk), (l7.getD 4 .junk), (I 1)] H8)
 (fun R9 =>
 C.callE 41 [a0.nod.nod, a1.nod.nod, v5.nod.nod] H6 fun v32 H33 =>
 R9 [a0, a1, v2, v5, v32] H33)
theorem wf29 : (Nat.ble 2 Try.f29.ntmps && wfC an29 Try.f29.ntmps (Try.f29.body.getD .skip)) = true := by kernel_rfl
theorem tie29 (C : Cb) (a0 a1 : V) (H : Hp) (R : List V → Hp → Prop) : wpG Try.prog C an29 (Try.f29.body.getD .skip) (argF [a0, a1]) H (retG Try.prog C Try.f29 R) (fun _ _ _ => False) (retG Try.prog C Try.f29 R) = vc29 C a0 a1 H R := by kernel_rfl
theorem mk29 (a0 a1 : V) {H : Hp} {v : V} {H1 : Hp} (hd : v.Nd) (hn : H.length ≤ H1.length) (hb : H1 = H ∨ ∀ (b : Nat) (blk : Blk), H1[b]? = some blk → H[b]? = some blk ∨ BelB H1.length blk) (h : vc29 (real Try.prog) a0 a1 H (retF v H1)) : Ret Try.prog 29 [a0, a1] H v H1 :=
 ret_mk (an := an29) hm Try.call29 Try.func29 rfl wf29 hd hn hb (Eq.mpr (tie29 (real Try.prog) a0 a1 H (retF v H1)) h)
def an65 : An := { imm := [], jn := [(11, [0, 3, 4, 5, 6, 7])], lp := [(3, [0, 3, 4]), (7, [0, 3, 4, 5, 6]), (10, [0, 3, 4, 5, 6, 7])], loud := [], ord := [] }
def vc65 (C : Cb) (a0 : V) (H : Hp) (R : List V → Hp → Prop) : Prop :=
 C.aBS 1 1 (V.arr [] .full) [(0, (V.arr [] .full))] fun v1 =>
 LoopA (fun l2 H3 K4 =>
 C.aBin (Try.prog.underlying 3) .lss (l2.getD 2 .junk).nod.nod (l2.getD 0 .junk).nod.nod fun v5 =>
 aCond v5.nod (
 LoopA (fun l6 H7 K8 =>
 C.aLen (l6.getD 1 .junk).nod.nod fun v9 =>
 C.aBin (Try.prog.underlying 3) .lss (l6.getD 4 .junk).nod.nod v9.nod fun v10 =>
 aCond v10.nod (
 LoopA (fun l11 H12 K13 =>
 C.aBin (Try.prog.underlying 3) .lss (l11.getD 5 .junk).nod.nod (I 3) fun v14 =>
 aCond v14.nod (
 Jn (fun l15 H16 =>
 C.aBin (Try.prog.underlying 3) .add (l15.getD 5 .junk).nod.nod (I 1) fun v18 =>
 K13 [(l15.getD 0 .junk), (l15.getD 1 .junk), (l15.getD 2 .junk), (l15.getD 3 .junk), (l15.getD 4 .junk), v18] H16)
 (fun R17 =>
 C.aIx 1 (l11.getD 1 .junk).nod.nod (l11.getD 4 .junk).nod.nod fun v19 =>
 C.aLd 1 false false v19.nod H12 fun v20 H21 =>
 C.aApp 1 8 (V.arr [] .full) v20.nod fun v22 =>
 C.aBS 1 1 (I 0) [(0, (l11.getD 5 .junk).nod.nod)] fun v23 =>
 C.aApp 1 8 v22 v23.nod fun v24 =>
 C.aBS 1 1 (V.arr [] .full) [(0, v24.nod)] fun v25 =>
 C.aApp 1 24 (l11.getD 3 .junk) v25.nod fun v26 =>
 R17 [(l11.getD 0 .junk), (l11.getD 1 .junk), (l11.getD 2 .junk), v26, (l11.getD 4 .junk), (l11.getD 5 .junk)] H21)) (
 C.aBin (Try.prog.underlying 3) .add (l11.getD 4 .junk).nod.nod (I 1) fun v27 =>
 K8 [(l11.getD 0 .junk), (l11.getD 1 .junk), (l11.getD 2 .junk), (l11.getD 3 .junk), v27] H12))
 [(l6.getD 0 .junk), (l6.getD 1 .junk), (l6.getD 2 .junk), (l6.getD 3 .junk), (l6.getD 4 .junk), (I 0)] H7) (
 C.aBin (Try.prog.underlying 3) .add (l6.getD 2 .junk).nod.nod (I 1) fun v28 =>
 K4 [(l6.getD 0 .junk), (l6.getD 3 .junk).nod, v28] H7))
 [(l2.getD 0 .junk), (l2.getD 1 .junk), (l2.getD 2 .junk), (V.arr [] .full), (I 0)] H3) (
 R [(l2.getD 1 .junk).nod] H3))
 [a0, v1, (I 1)] H
theorem wf65 : (Nat.ble 1 Try.f65.ntmps && wfC an65 Try.f65.ntmps (Try.f65.body.getD .skip)) = true := by kernel_rfl
theorem tie65 (C : Cb) (a0 : V) (H : Hp) (R : List V → Hp → Prop) : wpG Try.prog C an65 (Try.f65.body.getD .skip) (argF [a0]) H (retG Try.prog C Try.f65 R) (fun _ _ _ => False) (retG Try.prog C Try.f65 R) = vc65 C a0 H R := by kernel_rfl
theorem mk65 (a0 : V) {H : Hp} {v : V} {H1 : Hp} (hd : v.Nd) (hn : H.length ≤ H1.length) (hb : H1 = H ∨ ∀ (b : Nat) (blk : Blk), H1[b]? = some blk → H[b]? = some blk ∨ BelB H1.length blk) (h : vc65 (real Try.prog) a0 H (retF v H1)) : Ret Try.prog 65 [a0] H v H1 :=
 ret_mk (an := an65) hm Try.call65 Try.func65 rfl wf65 hd hn hb (Eq.mpr (tie65 (real Try.prog) a0 H (retF v H1)) h)
def an47 : An := { imm := [], jn := [(5, [0, 1, 2, 7, 8, 9]), (7, [0, 1, 2, 7, 8, 9, 26])], lp := [(4, [0, 1, 2, 7, 8, 9])], loud := [], ord := [] }
def vc47 (C : Cb) (a0 a1 a2 : V) (H : Hp) (R : List V → Hp → Prop) : Prop :=
 LoopA (fun l1 H2 K3 =>
 C.aBin (Try.prog.underlying 3) .lss (l1.getD 5 .junk).nod.nod (l1.getD 1 .junk).nod.nod fun v4 =>
 aCond v4.nod (
 Jn (fun l5 H6 =>
 C.aBin (Try.prog.underlying 3) .add (l5.getD 5 .junk).nod.nod (I 1) fun v8 =>
 K3 [(l5.getD 0 .junk), (l5.getD 1 .junk), (l5.getD 2 .junk), (l5.getD 3 .junk), (l5.getD 4 .junk), v8] H6)
 (fun R7 =>
 Jn (fun l9 H10 =>
 aCond (l9.getD 6 .junk).nod (
 C.aBin (Try.prog.underlying 3) .add (l9.getD 5 .junk).nod.nod (I 1) fun v12 =>
 C.aBd [(I 0), (I 0)] [(0, 1, (l9.getD 4 .junk).nod.nod), (1, 1, v12.nod.nod)] fun v13 =>
 C.aBS 2 1 (V.agg [(I 0), (I 0)]) [(0, (own0 v13 (l9.getD 4 .junk).nod).nod)] fun v14 =>
 C.aApp 2 16 (l9.getD 3 .junk) v14.nod fun v15 =>
 C.aBin (Try.prog.underlying 3) .add (l9.getD 5 .junk).nod.nod (I 1) fun v16 =>
 R7 [(l9.getD 0 .junk), (l9.getD 1 .junk), (l9.getD 2 .junk), v15, v16, (l9.getD 5 .junk)] H10) (
 R7 [(l9.getD 0 .junk), (l9.getD 1 .junk), (l9.getD 2 .junk), (l9.getD 3 .junk), (l9.getD 4 .junk), (l9.getD 5 .junk)] H10))
 (fun R11 =>
 C.aBin (Try.prog.underlying 3) .sub (l1.getD 1 .junk).nod.nod (I 1) fun v17 =>
 C.aBin (Try.prog.underlying 3) .eql (l1.getD 5 .junk).nod.nod v17.nod fun v18 =>
 Jv (fun v19 H20 =>
 R11 [(l1.getD 0 .junk), (l1.getD 1 .junk), (l1.getD 2 .junk), (l1.getD 3 .junk), (l1.getD 4 .junk), (l1.getD 5 .junk), v19] H20)
 (fun R21 =>
 aG v18.nod false (
 C.aIx 1 (l1.getD 0 .junk).nod.nod (l1.getD 5 .junk).nod.nod fun v22 =>
 C.aLd 1 false false v22.nod H2 fun v23 H24 =>
 C.aBin (Try.prog.underlying 3) .geq v23.nod (l1.getD 2 .junk).nod.nod fun v25 =>
 R21 v25.nod H24) (
 R21 (B true) H2))))) (
 R [(l1.getD 3 .junk).nod] H2))
 [a0, a1, a2, (V.arr [] .full), (I 0), (I 0)] H
theorem wf47 : (Nat.ble 3 Try.f47.ntmps && wfC an47 Try.f47.ntmps (Try.f47.body.getD .skip)) = true := by kernel_rfl
theorem tie47 (C : Cb) (a0 a1 a2 : V) (H : Hp) (R : List V → Hp → Prop) : wpG Try.prog C an47 (Try.f47.body.getD .skip) (argF [a0, a1, a2]) H (retG Try.prog C Try.f47 R) (fun _ _ _ => False) (retG Try.prog C Try.f47 R) = vc47 C a0 a1 a2 H R := by kernel_rfl
theorem mk47 (a0 a1 a2 : V) {H : Hp} {v : V} {H1 : Hp} (hd : v.Nd) (hn : H.length ≤ H1.length) (hb : H1 = H ∨ ∀ (b : Nat) (blk : Blk), H1[b]? = some blk → H[b]? = some blk ∨ BelB H1.length blk) (h : vc47 (real Try.prog) a0 a1 a2 H (retF v H1)) : Ret Try.prog 47 [a0, a1, a2] H v H1 :=
 ret_mk (an := an47) hm Try.call47 Try.func47 rfl wf47 hd hn hb (Eq.mpr (tie47 (real Try.prog) a0 a1 a2 H (retF v H1)) h)
end Go.Proofs.Ytgicpobploinhaa
set_option maxHeartbeats 2000000
namespace Go.Proofs.Ytgicpobploinhaa
open Go Go.Ab Go.Proofs
attribute [local congr] g_bin g_nilS g_nilP g_un g_ext g_bx g_fa g_ld g_st g_ix g_ixA g_slc g_mk g_bs g_bd g_nc g_cv g_len g_lenT g_app g_appB g_cpy g_mm g_call g_callG g_calm g_calmG g_range g_res g_pick g_cond g_loop g_Jv g_eqS g_eqP g_fd g_ixT g_ta g_lkp g_upd g_mkM g_appS g_inv g_callE g_callEG g_invE g_zr g_wr
theorem c27 (l : List Wd) (H : Hp) (hl : l.length ≤ 9223372036854775807) : Ret Try.prog 27 [.arr (l.map wdV) .no] H (B (okWs l)) H := by
 refine mk27 _ rfl (Nat.le_refl _) (.inl rfl) ?_
 simp only [vc27, real]
 unfold okWs
 by_cases h6 : l.length ≤ 60
 ·have d : ¬ (60 : Int) < l.length := by omega
  rw [decide_eq_true h6, Bool.true_and]
  repeat (first | (with_reducible first | refine Ju.go ?_ | (refine Hd.go ?_; intro K Q hK hQ; simp only [nod_arr, nd_no, e_lenA, List.length_map, nod_imm, Try.underlying3, e_gtr, d, decide_false, e_cond, Bool.false_eq_true, if_false]; subst hK hQ) | refine Jr.go ?_) | refine sd ?_)
  refine loop_of (fun i : Nat => i ≤ l.length ∧ (l.take i).all okWd = true) (fun i => [.arr (l.map wdV) .no, I i]) (fun _ => H) (fun i => l.length - i) 0 ⟨Nat.zero_le _, rfl⟩ rfl rfl ?_
  intro i ⟨hi, hp⟩
  repeat (first | (with_reducible first | refine Ju.go ?_ | (refine Hd.go ?_; intro K Q hK hQ; simp only [List.getD_cons_zero, nod_arr, nd_no, e_lenA, List.length_map, List.getD_cons_succ, nod_imm, Try.underlying3, e_lss, e_cond, decide_eq_true_eq]; subst hK hQ) | refine Jr.go ?_) | refine sd ?_)
  by_cases hlt : i < l.length
  ·have d1 : (i : Int) < l.length := by omega
   repeat (first | (with_reducible first | refine Ju.go ?_ | (refine Hd.go ?_; intro K Q hK hQ; simp only [d1, if_true, List.getD_cons_zero, nod_arr, nd_no, List.getD_cons_succ, nod_imm, ix_wd, Int.toNat_natCast, true_and, nod_cptr, e_fac, Nat.zero_add, lv_cons, List.length_nil, Nat.reduceAdd, Nat.reduceLeDiff, e_ldc, Try.underlying3, e_lss, e_gtr, e_gF, j_fl, decide_eq_false_iff_not, j_or', j_side, j_one, Int.reduceNeg, e_geq, e_cond]; subst hK hQ) | refine Jr.go ?_) | refine sd ?_)
   have e : (decide ((l.getD i default).sy < 1) || decide (20 < (l.getD i default).sy) || decide ((l.getD i default).st < -1) || decide ((l.getD i default).sy ≤ (l.getD i default).st) || decide ((l.getD i default).gp < 0) || decide (20 < (l.getD i default).gp)) = !okWd (l.getD i default) := by
    rw [Bool.eq_iff_iff]
    simp only [okWd, inB, Bool.not_eq_true', Bool.and_eq_false_iff, Bool.or_eq_true, decide_eq_true_eq, decide_eq_false_iff_not]
    omega
   rw [e]
   cases hb : okWd (l.getD i default)
   ·rw [show l.all okWd = false from all_bad l default _ hlt hb]
    repeat (first | (with_reducible first | refine Ju.go ?_ | (refine Hd.go ?_; intro K Q hK hQ; simp only [Bool.not_false, if_true]; subst hK hQ) | refine Jr.go ?_) | refine sd ?_)
    exact end1 (fzI _)
   ·repeat (first | (with_reducible first | refine Ju.go ?_ | (refine Hd.go ?_; intro K Q hK hQ; simp only [Bool.not_true, Bool.false_eq_true, if_false, List.getD_cons_succ, List.getD_cons_zero, nod_imm, Try.underlying3, e_add]; subst hK hQ) | refine Jr.go ?_) | refine sd ?_)
    exact ⟨i + 1, ⟨by omega, by rw [all_take l default _ hlt, hp, hb]; rfl⟩, rfl, rfl, by omega⟩
  ·have d1 : ¬ (i : Int) < l.length := by omega
   rw [List.take_of_length_le (by omega)] at hp
   rw [hp]
   repeat (first | (with_reducible first | refine Ju.go ?_ | (refine Hd.go ?_; intro K Q hK hQ; simp only [d1, if_false]; subst hK hQ) | refine Jr.go ?_) | refine sd ?_)
   exact end1 (fzI _)
 ·have d : (60 : Int) < l.length := by omega
  rw [decide_eq_false h6, Bool.false_and]
  repeat (first | (with_reducible first | refine Ju.go ?_ | (refine Hd.go ?_; intro K Q hK hQ; simp only [nod_arr, nd_no, e_lenA, List.length_map, nod_imm, Try.underlying3, e_gtr, d, decide_true, e_cond, if_true]; subst hK hQ) | refine Jr.go ?_) | refine sd ?_)
  exact end1 (fzI _)
theorem c28 (l : List Rk) (H : Hp) (hl : l.length ≤ 9223372036854775807) : Ret Try.prog 28 [.arr (l.map rkV) .no] H (B (okRs l)) H := by
 refine mk28 _ rfl (Nat.le_refl _) (.inl rfl) ?_
 simp only [vc28, real]
 unfold okRs
 by_cases h6 : l.length ≤ 20
 ·have d : ¬ (20 : Int) < l.length := by omega
  rw [decide_eq_true h6, Bool.true_and]
  repeat (first | (with_reducible first | refine Ju.go ?_ | (refine Hd.go ?_; intro K Q hK hQ; simp only [nod_arr, nd_no, e_lenA, List.length_map, nod_imm, Try.underlying3, e_gtr, d, decide_false, e_cond, Bool.false_eq_true, if_false]; subst hK hQ) | refine Jr.go ?_) | refine sd ?_)
  refine loop_of (fun i : Nat => i ≤ l.length ∧ (l.take i).all okRk = true) (fun i => [.arr (l.map rkV) .no, I i]) (fun _ => H) (fun i => l.length - i) 0 ⟨Nat.zero_le _, rfl⟩ rfl rfl ?_
  intro i ⟨hi, hp⟩
  repeat (first | (with_reducible first | refine Ju.go ?_ | (refine Hd.go ?_; intro K Q hK hQ; simp only [List.getD_cons_zero, nod_arr, nd_no, e_lenA, List.length_map, List.getD_cons_succ, nod_imm, Try.underlying3, e_lss, e_cond, decide_eq_true_eq]; subst hK hQ) | refine Jr.go ?_) | refine sd ?_)
  by_cases hlt : i < l.length
  ·have d1 : (i : Int) < l.length := by omega
   repeat (first | (with_reducible first | refine Ju.go ?_ | (refine Hd.go ?_; intro K Q hK hQ; simp only [d1, if_true, List.getD_cons_zero, nod_arr, nd_no, List.getD_cons_succ, nod_imm, ix_rk, Int.toNat_natCast, true_and, nod_cptr, e_fac, Nat.zero_add, lv_cons, List.length_nil, Nat.reduceAdd, Nat.reduceLeDiff, e_ldc, e_lss, e_gtr, e_gF, j_fl, decide_eq_false_iff_not, j_or', j_side, j_one, Try.underlying3, e_cond]; subst hK hQ) | refine Jr.go ?_) | refine sd ?_)
   have e : (decide ((l.getD i default).k < 1) || decide (6 < (l.getD i default).k) || decide ((l.getD i default).l < 1) || decide (2 < (l.getD i default).l) || decide ((l.getD i default).b < 0) || decide (400 < (l.getD i default).b)) = !okRk (l.getD i default) := by
    rw [Bool.eq_iff_iff]
    simp only [okRk, inB, Bool.not_eq_true', Bool.and_eq_false_iff, Bool.or_eq_true, decide_eq_true_eq, decide_eq_false_iff_not]
    omega
   rw [e]
   cases hb : okRk (l.getD i default)
   ·rw [show l.all okRk = false from all_bad l default _ hlt hb]
    repeat (first | (with_reducible first | refine Ju.go ?_ | (refine Hd.go ?_; intro K Q hK hQ; simp only [Bool.not_false, if_true]; subst hK hQ) | refine Jr.go ?_) | refine sd ?_)
    exact end1 (fzI _)
   ·repeat (first | (with_reducible first | refine Ju.go ?_ | (refine Hd.go ?_; intro K Q hK hQ; simp only [Bool.not_true, Bool.false_eq_true, if_false, List.getD_cons_succ, List.getD_cons_zero, nod_imm, Try.underlying3, e_add]; subst hK hQ) | refine Jr.go ?_) | refine sd ?_)
    exact ⟨i + 1, ⟨by omega, by rw [all_take l default _ hlt, hp, hb]; rfl⟩, rfl, rfl, by omega⟩
  ·have d1 : ¬ (i : Int) < l.length := by omega
   rw [List.take_of_length_le (by omega)] at hp
   rw [hp]
   repeat (first | (with_reducible first | refine Ju.go ?_ | (refine Hd.go ?_; intro K Q hK hQ; simp only [d1, if_false]; subst hK hQ) | refine Jr.go ?_) | refine sd ?_)
   exact end1 (fzI _)
 ·have d : (20 : Int) < l.length := by omega
  rw [decide_eq_false h6, Bool.false_and]
  repeat (first | (with_reducible first | refine Ju.go ?_ | (refine Hd.go ?_; intro K Q hK hQ; simp only [nod_arr, nd_no, e_lenA, List.length_map, nod_imm, Try.underlying3, e_gtr, d, decide_true, e_cond, if_true]; subst hK hQ) | refine Jr.go ?_) | refine sd ?_)
  exact end1 (fzI _)
def okBr (b : List Int) (n : Nat) : Bool := decide (b.length = n - 1) && b.all fun x => inB x 0 2
abbrev seV (ws : List Wd) (b : List Int) : V := .agg [.arr (ws.map wdV) .no, ints b .no]
def cutB (b : List Int) (l : Int) (i : Nat) : Bool := !(decide (i < b.length) && decide (b.getD i 0 < l))
def phF (b : List Int) (l : Int) : Nat → Nat
 | 0 => 0
 | i + 1 => if cutB b l i = true then i + 1 else phF b l i
def phs (b : List Int) (l : Int) : Nat → List (Nat × Nat)
 | 0 => []
 | i + 1 => if cutB b l i = true then phs b l i ++ [(phF b l i, i + 1)] else phs b l i
theorem phF_le (b : List Int) (l : Int) : ∀ i, phF b l i ≤ i
 | 0 => Nat.le_refl _
 | i + 1 => by
  unfold phF
  have := phF_le b l i
  split <;> omega
theorem phs_len (b : List Int) (l : Int) : ∀ i, (phs b l i).length ≤ i
 | 0 => Nat.le_refl _
 | i + 1 => by
  unfold phs
  have := phs_len b l i
  split
  ·rw [List.length_append]; simp; omega
  ·omega
theorem phs_mem (b : List Int) (l : Int) : ∀ i p, p ∈ phs b l i → p.1 < p.2 ∧ p.2 ≤ i
 | 0, p, h => by cases h
 | i + 1, p, h => by
  unfold phs at h
  split at h
  ·rcases List.mem_append.1 h with h | h
   ·have := phs_mem b l i p h; omega
   ·rw [List.mem_singleton] at h
    subst h
    have := phF_le b l i
    exact ⟨by show phF b l i < i + 1; omega, Nat.le_refl _⟩
  ·have := phs_mem b l i p h; omega
theorem bel_wds (n : Nat) (ws : List Wd) : Bel n (.arr (ws.map wdV) .no) := bel_E (e := wdV) (fun x => .agg _ fun c hc => by
 simp only [List.mem_cons, List.not_mem_nil, or_false] at hc
 rcases hc with rfl | rfl | rfl | rfl | rfl <;> exact .imm _) ws .no
theorem bel_seV (n : Nat) (ws : List Wd) (b : List Int) : Bel n (seV ws b) := .agg _ fun c hc => by
 simp only [List.mem_cons, List.not_mem_nil, or_false] at hc
 rcases hc with rfl | rfl
 ·exact bel_wds n ws
 ·exact bel_ints _ _ _
theorem c75 (ws : List Wd) (b : List Int) (l : Int) (H : Hp) : Ret Try.prog 75 [seV ws b, I l] H (.fn 103 [.cptr (seV ws b), .cptr (I l)]) H := by
 refine mk75 _ _ rfl (Nat.le_refl _) (.inl rfl) ?_
 simp only [vc75, real]
 repeat (first | (with_reducible first | refine Ju.go ?_ | (refine Hd.go ?_; intro K Q hK hQ; simp only [nod_agg, List.map_cons, nodL_arr, nd_no, nodL_ints, List.map_nil, e_bxI, okE_agg, lv_cons, List.length_nil, Nat.zero_add, Nat.reduceAdd, all_c, ck_arr, ck_ints, all_n, Bool.and_self, and_true, true_and, nod_imm, okE_I]; subst hK hQ) | refine Jr.go ?_) | refine sd ?_)
 refine end1 (.keep _ (.fn _ _ fun c hc => ?_))
 simp only [List.mem_cons, List.not_mem_nil, or_false] at hc
 rcases hc with rfl | rfl
 ·exact .cptr _ (bel_seV _ ws b)
 ·exact .cptr _ (.imm _)
theorem c103 (ws : List Wd) (b : List Int) (l : Int) (bb : Nat) (H : Hp) (P : List (Nat × Nat) → Hp → Prop) (hw : ws.length ≤ 1000000) (hl : b.length ≤ 1000000) (h0 : P [] H)
    (hs : ∀ i G, i < ws.length → cutB b l i = true → P (phs b l i) G → RetYE Try.prog bb [.agg [I (phF b l i), I ((i + 1 : Nat) : Int)]] G (fun v G' => v = B true ∧ P (phs b l i ++ [(phF b l i, i + 1)]) G')) :
    RetE Try.prog 103 [.yld bb, .cptr (seV ws b), .cptr (I l)] H (fun _ H' => P (phs b l ws.length) H') := by
  refine mkE103 _ _ _ ?_
  simp only [vc103, real]
  repeat (first | (with_reducible first | refine Ju.go ?_ | (refine Hd.go ?_; intro K Q hK hQ; simp only [nod_cptr, e_fac, Nat.zero_add, lv_cons, List.length_nil, Nat.reduceAdd, Nat.reduceLeDiff, List.getD_cons_zero, true_and, e_ldcV, nod_arr, nd_no, e_lenA, List.length_map]; subst hK hQ) | refine Jr.go ?_) | refine sd ?_)
  refine loop_of (fun q : Nat × Hp => q.1 ≤ ws.length ∧ P (phs b l q.1) q.2) (fun q => [.yld bb, .cptr (seV ws b), .cptr (I l), I (phF b l q.1), I ws.length, I q.1]) (·.2) (fun q => ws.length - q.1) (0, H) ⟨Nat.zero_le _, h0⟩ rfl rfl ?_
  rintro ⟨i, G⟩ ⟨hi, hP⟩
  simp only at hi hP ⊢
  repeat (first | (with_reducible first | refine Ju.go ?_ | (refine Hd.go ?_; intro K Q hK hQ; simp only [List.getD_cons_succ, List.getD_cons_zero, nod_imm, Try.underlying3, e_lss, e_cond, decide_eq_true_eq]; subst hK hQ) | refine Jr.go ?_) | refine sd ?_)
  by_cases hlt : i < ws.length
  · have d : (i : Int) < ws.length := by omega
    have ef : phF b l (i + 1) = if cutB b l i = true then i + 1 else phF b l i := rfl
    have ep : phs b l (i + 1) = if cutB b l i = true then phs b l i ++ [(phF b l i, i + 1)] else phs b l i := rfl
    repeat (first | (with_reducible first | refine Ju.go ?_ | (refine Hd.go ?_; intro K Q hK hQ; simp only [d, if_true, List.getD_cons_succ, List.getD_cons_zero, nod_cptr, e_fac, Nat.reduceAdd, lv_cons, List.length_nil, Nat.zero_add, Nat.reduceLeDiff, true_and, e_ldci, nod_ints, nd_no, e_len, nod_imm, Try.underlying3, e_lss, e_ldc, e_ix, Int.toNat_natCast, e_gT, j_tl, decide_eq_true_eq, j_and', j_side, j_one, e_cond]; subst hK hQ) | refine Jr.go ?_) | refine sd ?_)
    have e : (decide ((i : Int) < b.length) && decide (b.getD i 0 < l)) = !cutB b l i := by
      unfold cutB
      rw [Bool.not_not, show decide ((i : Int) < b.length) = decide (i < b.length) by rw [decide_eq_decide]; omega]
    have r1 : R64 ((i : Int) + 1) := by unfold R64; omega
    rw [e]
    cases hc : cutB b l i
    · rw [hc, if_neg (by decide)] at ef ep
      repeat (first | (with_reducible first | refine Ju.go ?_ | (refine Hd.go ?_; intro K Q hK hQ; simp only [Bool.not_false, if_true, List.getD_cons_succ, List.getD_cons_zero, nod_imm, Try.underlying3, e_add, r1, true_and]; subst hK hQ) | refine Jr.go ?_) | refine sd ?_)
      exact ⟨(i + 1, G), ⟨hlt, by show P (phs b l (i + 1)) G; rw [ep]; exact hP⟩, by show [_, _, _, I (phF b l (i + 1) : Nat), _, _] = _; rw [ef]; rfl, rfl, by show ws.length - (i + 1) < ws.length - i; omega⟩
    · rw [hc, if_pos rfl] at ef ep
      repeat (first | (with_reducible first | refine Ju.go ?_ | (refine Hd.go ?_; intro K Q hK hQ; simp only [Bool.not_true, Bool.false_eq_true, if_false, List.getD_cons_zero, List.getD_cons_succ, nod_imm, Try.underlying3, e_add, r1, true_and, e_bd1, okE_I, Nat.zero_add, lv_cons, List.length_nil, Nat.reduceAdd, Nat.reduceLeDiff, cl_imm, spl_0, spl_n, spl_s, e_bd0, nod_nod, own0_imm, nod_agg, List.map_cons, nodL_imm, List.map_nil]; subst hK hQ) | refine Jr.go ?_) | refine sd ?_)
      show CallYE Try.prog bb [.agg [I (phF b l i), I ((i : Int) + 1)]] G _
      refine ⟨_, hs i G hlt hc hP, ?_⟩
      rintro v G2 ⟨rfl, hP2⟩
      repeat (first | (with_reducible first | refine Ju.go ?_ | (refine Hd.go ?_; intro K Q hK hQ; simp only [nod_imm, e_not, Bool.not_true, e_cond, Bool.false_eq_true, if_false, List.getD_cons_succ, List.getD_cons_zero, Try.underlying3, e_add, r1, true_and]; subst hK hQ) | refine Jr.go ?_) | refine sd ?_)
      exact ⟨(i + 1, G2), ⟨hlt, by show P (phs b l (i + 1)) G2; rw [ep]; exact hP2⟩, by show [_, _, _, I (phF b l (i + 1) : Nat), _, _] = _; rw [ef]; rfl, rfl, by show ws.length - (i + 1) < ws.length - i; omega⟩
  · have d : ¬ (i : Int) < ws.length := by omega
    obtain rfl : i = ws.length := by omega
    repeat (first | (with_reducible first | refine Ju.go ?_ | (refine Hd.go ?_; intro K Q hK hQ; simp only [d, if_false]; subst hK hQ) | refine Jr.go ?_) | refine sd ?_)
    exact hP
theorem e_range (P : Program) (f : Nat) (caps : List V) (np : Nat) (H : Hp) (stp : List V → Hp → (Hp → (Hp → Prop) → Prop) → (Bool → Hp → Prop) → Prop) (n r : Hp → Prop) : aRange P (.fn f caps) np H stp n r = RangeA P f caps np H stp (fun p H' => cnd p (r H') (n H')) := rfl
def segS (ws : List Wd) (p : Nat × Nat) : Int := syS ((ws.take p.2).drop p.1)
def lgS (ws : List Wd) (k : Int) (ps : List (Nat × Nat)) : Int := (ps.map fun p => max 0 (segS ws p - k)).sum
def shS (ws : List Wd) (k : Int) (ps : List (Nat × Nat)) : Int := (ps.map fun p => max 0 (k - segS ws p)).sum
theorem lgS_snoc (ws : List Wd) (k : Int) (ps : List (Nat × Nat)) (p : Nat × Nat) : lgS ws k (ps ++ [p]) = lgS ws k ps + max 0 (segS ws p - k) := by
 unfold lgS; rw [List.map_append, List.sum_append]; simp
theorem shS_snoc (ws : List Wd) (k : Int) (ps : List (Nat × Nat)) (p : Nat × Nat) : shS ws k (ps ++ [p]) = shS ws k ps + max 0 (k - segS ws p) := by
 unfold shS; rw [List.map_append, List.sum_append]; simp
theorem seg_ok {ws : List Wd} (h : okWs ws = true) (p : Nat × Nat) : ((ws.take p.2).drop p.1).length ≤ 60 ∧ (∀ w, w ∈ (ws.take p.2).drop p.1 → okWd w = true) ∧ 0 ≤ segS ws p ∧ segS ws p ≤ 1200 := by
 unfold okWs at h
 rw [Bool.and_eq_true, decide_eq_true_eq, List.all_eq_true] at h
 have h1 : ((ws.take p.2).drop p.1).length ≤ 60 := by rw [List.length_drop, List.length_take]; omega
 have h2 : ∀ w, w ∈ (ws.take p.2).drop p.1 → okWd w = true := fun w hw => h.2 w (List.mem_of_mem_take (List.mem_of_mem_drop hw))
 have h3 := syS_rng h2
 refine ⟨h1, h2, h3.1, ?_⟩
 show syS _ ≤ _
 omega
theorem lgS_rng {ws : List Wd} (h : okWs ws = true) {k : Int} (hk : 0 ≤ k ∧ k ≤ 400) (ps : List (Nat × Nat)) : 0 ≤ lgS ws k ps ∧ lgS ws k ps ≤ ps.length * 1200 := by
 unfold lgS
 induction ps with
 | nil => simp
 | cons p ps ih =>
  have h1 := seg_ok h p
  simp only [List.map_cons, List.sum_cons, List.length_cons]
  omega
theorem shS_rng {ws : List Wd} (h : okWs ws = true) {k : Int} (hk : 0 ≤ k ∧ k ≤ 400) (ps : List (Nat × Nat)) : 0 ≤ shS ws k ps ∧ shS ws k ps ≤ ps.length * 400 := by
 unfold shS
 induction ps with
 | nil => simp
 | cons p ps ih =>
  have h1 := seg_ok h p
  simp only [List.map_cons, List.sum_cons, List.length_cons]
  omega
def hh (H : Hp) (x y : Blk) : Hp := H ++ [x] ++ [y]
theorem hh_0 (H : Hp) (x y : Blk) : (hh H x y)[H.length]? = some x := by
 unfold hh
 rw [List.append_assoc, tail0]; rfl
theorem hh_1 (H : Hp) (x y : Blk) : (hh H x y)[H.length + 1]? = some y := by
 unfold hh
 rw [List.getElem?_append_right (by simp)]; simp
theorem hh_s0 (H : Hp) (x y z : Blk) : (hh H x y).set H.length z = hh H z y := by
 unfold hh
 rw [List.append_assoc, List.set_append_right _ _ (Nat.le_refl _), Nat.sub_self, List.append_assoc]; rfl
theorem hh_s1 (H : Hp) (x y z : Blk) : (hh H x y).set (H.length + 1) z = hh H x z := by
 unfold hh
 rw [List.set_append_right _ _ (by simp)]; simp
theorem hh_t (H : Hp) (x y : Blk) : (hh H x y).take H.length = H := by
 unfold hh
 rw [List.append_assoc, List.take_left']; rfl
theorem c108 (ws : List Wd) (b : List Int) (r : Rk) (H : Hp) (hw : okWs ws = true) (hr : okRk r = true) (hl : b.length ≤ 1000000) : Ret Try.prog 108 [seV ws b, rkV r] H (I (lgS ws r.b (phs b r.l ws.length))) H := by
 have hr' := okRk_p hr
 have hwl : ws.length ≤ 60 := by
  unfold okWs at hw
  rw [Bool.and_eq_true, decide_eq_true_eq] at hw
  exact hw.1
 refine mk108 _ _ rfl (Nat.le_refl _) (.inl rfl) ?_
 simp only [vc108, real]
 repeat (first | (with_reducible first | refine Ju.go ?_ | (refine Hd.go ?_; intro K Q hK hQ; simp only [nod_agg, List.map_cons, nodL_arr, nd_no, nodL_ints, List.map_nil, e_bxI, okE_agg, lv_cons, List.length_nil, Nat.zero_add, Nat.reduceAdd, all_c, ck_arr, ck_ints, all_n, Bool.and_self, and_true, true_and, nodL_imm, ck_I, e_bx, okE_I, cl_imm, nod_ptr, e_sc0, Nat.reduceLeDiff, stV_imm, spl_0, spl_n, nod_cptr, e_ldcA, e_fac, List.getD_cons_succ, List.getD_cons_zero, e_ldc, nod_imm]; subst hK hQ) | refine Jr.go ?_) | refine sd ?_)
 refine call_of (c75 ws b r.l _) ?_
 repeat (first | (with_reducible first | refine Ju.go ?_ | (refine Hd.go ?_; intro K Q hK hQ; simp only []; subst hK hQ) | refine Jr.go ?_) | refine sd ?_)
 show aRange Try.prog (V.fn 103 _) 1 _ _ _ _
 rw [e_range]
 intro L hY hbelL
 have hl1 : ∀ a : Blk, (H ++ [a]).length = H.length + 1 := fun a => by simp
 rw [hl1] at hY hbelL ⊢
 have hstep : ∀ (pre : List (Nat × Nat)) (p : Nat × Nat), p.1 ≤ p.2 → p.2 ≤ ws.length → pre.length ≤ 60 → RetYE Try.prog (H.length + 1) [.agg [I p.1, I p.2]] (hh H (.cells [I (lgS ws r.b pre)]) (L .ready false)) (fun v G' => v = B true ∧ G' = hh H (.cells [I (lgS ws r.b (pre ++ [p]))]) (L .ready false)) := by
  intro pre p h1 h2 h3
  refine hY _ _ _ rfl (hh_1 _ _ _) ?_
  obtain ⟨s1, s2, s3, s4⟩ := seg_ok hw p
  have hr1 := lgS_rng hw hr'.2.2 pre
  have d1 : (p.1 : Int) ≤ p.2 := by omega
  have d2 : (p.2 : Int) ≤ ws.length := by omega
  have r1 : R64 (segS ws p - r.b) := by unfold R64; omega
  have r2 : R64 (lgS ws r.b pre + max 0 (segS ws p - r.b)) := by unfold R64; omega
  repeat (first | (with_reducible first | refine Ju.go ?_ | (refine Hd.go ?_; intro K Q hK hQ; simp only [List.getD_cons_zero, nod_agg, List.map_cons, nodL_imm, List.map_nil, e_bxI, okE_agg, lv_cons, List.length_nil, Nat.zero_add, Nat.reduceAdd, all_c, ck_I, all_n, Bool.and_self, and_true, true_and]; subst hK hQ) | refine Jr.go ?_) | refine sd ?_)
  refine ⟨hh_1 _ _ _, ?_⟩
  rw [hh_s1]
  repeat (first | (with_reducible first | refine Ju.go ?_ | (refine Hd.go ?_; intro K Q hK hQ; simp only [nod_ptr, ld_at (hh_0 H _ _), Nat.zero_add, lv_cons, List.length_nil, Nat.reduceLeDiff, List.getD_cons_zero, nod_imm, true_and, nod_cptr, e_fac, Nat.reduceAdd, e_ldcV, e_ldc, List.getD_cons_succ, nod_arr, nd_no, slc_wd, d1, d2, Int.toNat_natCast]; subst hK hQ) | refine Jr.go ?_) | refine sd ?_)
  refine calm_of (fun H => c114 _ H (by omega) s2) ?_
  have es : syS ((ws.take p.2).drop p.1) = segS ws p := rfl
  rw [es]
  repeat (first | (with_reducible first | refine Ju.go ?_ | (refine Hd.go ?_; intro K Q hK hQ; simp only [nod_cptr, e_fac, Nat.reduceAdd, lv_cons, List.length_nil, Nat.zero_add, Nat.reduceLeDiff, List.getD_cons_succ, List.getD_cons_zero, true_and, e_ldc, nod_imm, Try.underlying3, e_sub, r1, e_max2, e_add, r2, nod_ptr, st_at (hh_0 H _ _), stV_imm, okE_I, cl_imm, spl_0, spl_n]; subst hK hQ) | refine Jr.go ?_) | refine sd ?_)
  show (List.set _ _ _)[H.length + 1]? = some (L .busy false) ∧ B (!false) = B true ∧ List.set (List.set _ _ _) _ _ = _
  rw [hh_s0, hh_s1, lgS_snoc]
  exact ⟨hh_1 _ _ _, rfl, rfl⟩
 refine RetE.mono (c103 ws b r.l (H.length + 1) _ (fun ps G => G = hh H (.cells [I (lgS ws r.b ps)]) (L .ready false)) (by omega) hl rfl ?_) ?_
 ·rintro i G hi _ rfl
  have := phF_le b r.l i
  have := phs_len b r.l i
  exact hstep _ (phF b r.l i, i + 1) (by show phF b r.l i ≤ i + 1; omega) hi (by omega)
 ·rintro v H2 rfl
  refine ⟨_, _, hh_1 _ _ _, by decide, ?_⟩
  rw [hh_s1]
  show aLd 1 false false (V.ptr H.length 0).nod.nod _ _
  repeat (first | (with_reducible first | refine Ju.go ?_ | (refine Hd.go ?_; intro K Q hK hQ; simp only [nod_ptr, ld_at (hh_0 H _ _), Nat.zero_add, lv_cons, List.length_nil, Nat.reduceLeDiff, List.getD_cons_zero, nod_imm, true_and]; subst hK hQ) | refine Jr.go ?_) | refine sd ?_)
  exact end1T (fzI _) (hh_t _ _ _)
theorem c109 (ws : List Wd) (b : List Int) (r : Rk) (H : Hp) (hw : okWs ws = true) (hr : okRk r = true) (hl : b.length ≤ 1000000) : Ret Try.prog 109 [seV ws b, rkV r] H (I (shS ws r.b (phs b r.l ws.length))) H := by
 have hr' := okRk_p hr
 have hwl : ws.length ≤ 60 := by
  unfold okWs at hw
  rw [Bool.and_eq_true, decide_eq_true_eq] at hw
  exact hw.1
 refine mk109 _ _ rfl (Nat.le_refl _) (.inl rfl) ?_
 simp only [vc109, real]
 repeat (first | (with_reducible first | refine Ju.go ?_ | (refine Hd.go ?_; intro K Q hK hQ; simp only [nod_agg, List.map_cons, nodL_arr, nd_no, nodL_ints, List.map_nil, e_bxI, okE_agg, lv_cons, List.length_nil, Nat.zero_add, Nat.reduceAdd, all_c, ck_arr, ck_ints, all_n, Bool.and_self, and_true, true_and, nodL_imm, ck_I, e_bx, okE_I, cl_imm, nod_ptr, e_sc0, Nat.reduceLeDiff, stV_imm, spl_0, spl_n, nod_cptr, e_ldcA, e_fac, List.getD_cons_succ, List.getD_cons_zero, e_ldc, nod_imm]; subst hK hQ) | refine Jr.go ?_) | refine sd ?_)
 refine call_of (c75 ws b r.l _) ?_
 repeat (first | (with_reducible first | refine Ju.go ?_ | (refine Hd.go ?_; intro K Q hK hQ; simp only []; subst hK hQ) | refine Jr.go ?_) | refine sd ?_)
 show aRange Try.prog (V.fn 103 _) 1 _ _ _ _
 rw [e_range]
 intro L hY hbelL
 have hl1 : ∀ a : Blk, (H ++ [a]).length = H.length + 1 := fun a => by simp
 rw [hl1] at hY hbelL ⊢
 have hstep : ∀ (pre : List (Nat × Nat)) (p : Nat × Nat), p.1 ≤ p.2 → p.2 ≤ ws.length → pre.length ≤ 60 → RetYE Try.prog (H.length + 1) [.agg [I p.1, I p.2]] (hh H (.cells [I (shS ws r.b pre)]) (L .ready false)) (fun v G' => v = B true ∧ G' = hh H (.cells [I (shS ws r.b (pre ++ [p]))]) (L .ready false)) := by
  intro pre p h1 h2 h3
  refine hY _ _ _ rfl (hh_1 _ _ _) ?_
  obtain ⟨s1, s2, s3, s4⟩ := seg_ok hw p
  have hr1 := shS_rng hw hr'.2.2 pre
  have d1 : (p.1 : Int) ≤ p.2 := by omega
  have d2 : (p.2 : Int) ≤ ws.length := by omega
  have r1 : R64 (r.b - segS ws p) := by unfold R64; omega
  have r2 : R64 (shS ws r.b pre + max 0 (r.b - segS ws p)) := by unfold R64; omega
  repeat (first | (with_reducible first | refine Ju.go ?_ | (refine Hd.go ?_; intro K Q hK hQ; simp only [List.getD_cons_zero, nod_agg, List.map_cons, nodL_imm, List.map_nil, e_bxI, okE_agg, lv_cons, List.length_nil, Nat.zero_add, Nat.reduceAdd, all_c, ck_I, all_n, Bool.and_self, and_true, true_and]; subst hK hQ) | refine Jr.go ?_) | refine sd ?_)
  refine ⟨hh_1 _ _ _, ?_⟩
  rw [hh_s1]
  repeat (first | (with_reducible first | refine Ju.go ?_ | (refine Hd.go ?_; intro K Q hK hQ; simp only [nod_ptr, ld_at (hh_0 H _ _), Nat.zero_add, lv_cons, List.length_nil, Nat.reduceLeDiff, List.getD_cons_zero, nod_imm, true_and, nod_cptr, e_fac, Nat.reduceAdd, List.getD_cons_succ, e_ldc, e_ldcV, nod_arr, nd_no, slc_wd, d1, d2, Int.toNat_natCast]; subst hK hQ) | refine Jr.go ?_) | refine sd ?_)
  refine calm_of (fun H => c114 _ H (by omega) s2) ?_
  have es : syS ((ws.take p.2).drop p.1) = segS ws p := rfl
  rw [es]
  repeat (first | (with_reducible first | refine Ju.go ?_ | (refine Hd.go ?_; intro K Q hK hQ; simp only [nod_imm, Try.underlying3, e_sub, r1, true_and, e_max2, e_add, r2, nod_ptr, st_at (hh_0 H _ _), Nat.zero_add, lv_cons, List.length_nil, Nat.reduceLeDiff, stV_imm, okE_I, cl_imm, spl_0, spl_n]; subst hK hQ) | refine Jr.go ?_) | refine sd ?_)
  show (List.set _ _ _)[H.length + 1]? = some (L .busy false) ∧ B (!false) = B true ∧ List.set (List.set _ _ _) _ _ = _
  rw [hh_s0, hh_s1, shS_snoc]
  exact ⟨hh_1 _ _ _, rfl, rfl⟩
 refine RetE.mono (c103 ws b r.l (H.length + 1) _ (fun ps G => G = hh H (.cells [I (shS ws r.b ps)]) (L .ready false)) (by omega) hl rfl ?_) ?_
 ·rintro i G hi _ rfl
  have := phF_le b r.l i
  have := phs_len b r.l i
  exact hstep _ (phF b r.l i, i + 1) (by show phF b r.l i ≤ i + 1; omega) hi (by omega)
 ·rintro v H2 rfl
  refine ⟨_, _, hh_1 _ _ _, by decide, ?_⟩
  rw [hh_s1]
  show aLd 1 false false (V.ptr H.length 0).nod.nod _ _
  repeat (first | (with_reducible first | refine Ju.go ?_ | (refine Hd.go ?_; intro K Q hK hQ; simp only [nod_ptr, ld_at (hh_0 H _ _), Nat.zero_add, lv_cons, List.length_nil, Nat.reduceLeDiff, List.getD_cons_zero, nod_imm, true_and]; subst hK hQ) | refine Jr.go ?_) | refine sd ?_)
  exact end1T (fzI _) (hh_t _ _ _)
end Go.Proofs.Ytgicpobploinhaa
set_option maxHeartbeats 4000000
namespace Go.Proofs.Ytgicpobploinhaa
open Go Go.Ab Go.Proofs
def an61b : An := { imm := [2], jn := [], lp := [(3, [2, 5, 11, 12, 13])], loud := [20, 26], ord := [(5, [(2, 4), (2, 6), (2, 7)], [[0, 1, 3, 4, 6, 7, 2, 5, 8, 9, 10], [0, 1, 3, 6, 7, 2, 4, 5, 8, 9, 10], [0, 1, 3, 4, 7, 2, 5, 6, 8, 9, 10], [0, 1, 3, 7, 2, 4, 5, 6, 8, 9, 10], [0, 1, 3, 4, 6, 2, 5, 7, 8, 9, 10], [0, 1, 3, 6, 2, 4, 5, 7, 8, 9, 10], [0, 1, 3, 4, 2, 5, 6, 7, 8, 9, 10], [0, 1, 2, 3, 4, 5, 6, 7, 8, 9, 10]])] }
def vc61b (C : Cb) (a0 a1 : V) (H : Hp) (R : List V → Hp → Prop) : Prop :=
 C.aBx true 2 a0.nod H fun v1 H2 =>
 C.aLen a1.nod.nod fun v3 =>
 C.aMk false (I 0) 8 v3.nod v3.nod H2 fun v4 H5 =>
 C.aLen a1.nod.nod fun v6 =>
 LoopA (fun l7 H8 K9 =>
 C.aBin (Try.prog.underlying 3) .lss (l7.getD 4 .junk).nod (l7.getD 3 .junk).nod fun v10 =>
 aCond v10.nod (
 C.aIx 3 (l7.getD 2 .junk).nod (l7.getD 4 .junk).nod fun v11 =>
 C.aLd 3 true false v11.nod H8 fun v12 H13 =>
 C.aBx false 3 (V.agg [(I 0), (I 0), (I 0)]) H13 fun v14 H15 =>
 C.aSt 3 v14.nod v12 H15 fun v16 H17 =>
 (C.aFA 0 1 false v14.nod fun v18 =>
 C.aLd 1 false false v18.nod H17 fun v19 H20 =>
 C.aLd 2 true false (l7.getD 0 .junk).nod H20 fun v21 H22 =>
 C.aLd 3 true false v14.nod H22 fun v23 H24 =>
 C.call 90 [] H24 fun v25 H26 =>
 C.aLkp 96 (V.imm .nilFunc) false v25.nod v19.nod H26 fun v27 =>
 aCallG C v27.nod [v21.nod, v23.nod] H26 fun v28 H29 =>
 C.aIx 1 (l7.getD 1 .junk).nod.nod (l7.getD 4 .junk).nod.nod.nod fun v30 =>
 C.aSt 1 v30.nod v28 H29 fun v31 H32 =>
 C.aBin (Try.prog.underlying 3) .add (l7.getD 4 .junk).nod (I 1) fun v33 =>
 K9 [(l7.getD 0 .junk), (l7.getD 1 .junk), (l7.getD 2 .junk), (l7.getD 3 .junk), v33.nod] H32) ∧ (C.aFA 0 1 false v14.nod fun v34 =>
 C.aLd 2 true false (l7.getD 0 .junk).nod H17 fun v35 H36 =>
 C.aLd 3 true false v14.nod H36 fun v37 H38 =>
 C.call 90 [] H38 fun v39 H40 =>
 C.aLd 1 false false v34.nod H40 fun v41 H42 =>
 C.aLkp 96 (V.imm .nilFunc) false v39.nod v41.nod H42 fun v43 =>
 aCallG C v43.nod [v35.nod, v37.nod] H42 fun v44 H45 =>
 C.aIx 1 (l7.getD 1 .junk).nod.nod (l7.getD 4 .junk).nod.nod.nod fun v46 =>
 C.aSt 1 v46.nod v44 H45 fun v47 H48 =>
 C.aBin (Try.prog.underlying 3) .add (l7.getD 4 .junk).nod (I 1) fun v49 =>
 K9 [(l7.getD 0 .junk), (l7.getD 1 .junk), (l7.getD 2 .junk), (l7.getD 3 .junk), v49.nod] H48) ∧ (C.aFA 0 1 false v14.nod fun v50 =>
 C.aLd 1 false false v50.nod H17 fun v51 H52 =>
 C.aLd 3 true false v14.nod H52 fun v53 H54 =>
 C.call 90 [] H54 fun v55 H56 =>
 C.aLkp 96 (V.imm .nilFunc) false v55.nod v51.nod H56 fun v57 =>
 C.aLd 2 true false (l7.getD 0 .junk).nod H56 fun v58 H59 =>
 aCallG C v57.nod [v58.nod, v53.nod] H59 fun v60 H61 =>
 C.aIx 1 (l7.getD 1 .junk).nod.nod (l7.getD 4 .junk).nod.nod.nod fun v62 =>
 C.aSt 1 v62.nod v60 H61 fun v63 H64 =>
 C.aBin (Try.prog.underlying 3) .add (l7.getD 4 .junk).nod (I 1) fun v65 =>
 K9 [(l7.getD 0 .junk), (l7.getD 1 .junk), (l7.getD 2 .junk), (l7.getD 3 .junk), v65.nod] H64) ∧ (C.aFA 0 1 false v14.nod fun v66 =>
 C.aLd 3 true false v14.nod H17 fun v67 H68 =>
 C.call 90 [] H68 fun v69 H70 =>
 C.aLd 1 false false v66.nod H70 fun v71 H72 =>
 C.aLkp 96 (V.imm .nilFunc) false v69.nod v71.nod H72 fun v73 =>
 C.aLd 2 true false (l7.getD 0 .junk).nod H72 fun v74 H75 =>
 aCallG C v73.nod [v74.nod, v67.nod] H75 fun v76 H77 =>
 C.aIx 1 (l7.getD 1 .junk).nod.nod (l7.getD 4 .junk).nod.nod.nod fun v78 =>
 C.aSt 1 v78.nod v76 H77 fun v79 H80 =>
 C.aBin (Try.prog.underlying 3) .add (l7.getD 4 .junk).nod (I 1) fun v81 =>
 K9 [(l7.getD 0 .junk), (l7.getD 1 .junk), (l7.getD 2 .junk), (l7.getD 3 .junk), v81.nod] H80) ∧ (C.aFA 0 1 false v14.nod fun v82 =>
 C.aLd 1 false false v82.nod H17 fun v83 H84 =>
 C.aLd 2 true false (l7.getD 0 .junk).nod H84 fun v85 H86 =>
 C.call 90 [] H86 fun v87 H88 =>
 C.aLkp 96 (V.imm .nilFunc) false v87.nod v83.nod H88 fun v89 =>
 C.aLd 3 true false v14.nod H88 fun v90 H91 =>
 aCallG C v89.nod [v85.nod, v90.nod] H91 fun v92 H93 =>
 C.aIx 1 (l7.getD 1 .junk).nod.nod (l7.getD 4 .junk).nod.nod.nod fun v94 =>
 C.aSt 1 v94.nod v92 H93 fun v95 H96 =>
 C.aBin (Try.prog.underlying 3) .add (l7.getD 4 .junk).nod (I 1) fun v97 =>
 K9 [(l7.getD 0 .junk), (l7.getD 1 .junk), (l7.getD 2 .junk), (l7.getD 3 .junk), v97.nod] H96) ∧ (C.aFA 0 1 false v14.nod fun v98 =>
 C.aLd 2 true false (l7.getD 0 .junk).nod H17 fun v99 H100 =>
 C.call 90 [] H100 fun v101 H102 =>
 C.aLd 1 false false v98.nod H102 fun v103 H104 =>
 C.aLkp 96 (V.imm .nilFunc) false v101.nod v103.nod H104 fun v105 =>
 C.aLd 3 true false v14.nod H104 fun v106 H107 =>
 aCallG C v105.nod [v99.nod, v106.nod] H107 fun v108 H109 =>
 C.aIx 1 (l7.getD 1 .junk).nod.nod (l7.getD 4 .junk).nod.nod.nod fun v110 =>
 C.aSt 1 v110.nod v108 H109 fun v111 H112 =>
 C.aBin (Try.prog.underlying 3) .add (l7.getD 4 .junk).nod (I 1) fun v113 =>
 K9 [(l7.getD 0 .junk), (l7.getD 1 .junk), (l7.getD 2 .junk), (l7.getD 3 .junk), v113.nod] H112) ∧ (C.aFA 0 1 false v14.nod fun v114 =>
 C.aLd 1 false false v114.nod H17 fun v115 H116 =>
 C.call 90 [] H116 fun v117 H118 =>
 C.aLkp 96 (V.imm .nilFunc) false v117.nod v115.nod H118 fun v119 =>
 C.aLd 2 true false (l7.getD 0 .junk).nod H118 fun v120 H121 =>
 C.aLd 3 true false v14.nod H121 fun v122 H123 =>
 aCallG C v119.nod [v120.nod, v122.nod] H123 fun v124 H125 =>
 C.aIx 1 (l7.getD 1 .junk).nod.nod (l7.getD 4 .junk).nod.nod.nod fun v126 =>
 C.aSt 1 v126.nod v124 H125 fun v127 H128 =>
 C.aBin (Try.prog.underlying 3) .add (l7.getD 4 .junk).nod (I 1) fun v129 =>
 K9 [(l7.getD 0 .junk), (l7.getD 1 .junk), (l7.getD 2 .junk), (l7.getD 3 .junk), v129.nod] H128) ∧ (C.call 90 [] H17 fun v130 H131 =>
 C.aFA 0 1 false v14.nod fun v132 =>
 C.aLd 1 false false v132.nod H131 fun v133 H134 =>
 C.aLkp 96 (V.imm .nilFunc) false v130.nod v133.nod H134 fun v135 =>
 C.aLd 2 true false (l7.getD 0 .junk).nod H134 fun v136 H137 =>
 C.aLd 3 true false v14.nod H137 fun v138 H139 =>
 aCallG C v135.nod [v136.nod, v138.nod] H139 fun v140 H141 =>
 C.aIx 1 (l7.getD 1 .junk).nod.nod (l7.getD 4 .junk).nod.nod.nod fun v142 =>
 C.aSt 1 v142.nod v140 H141 fun v143 H144 =>
 C.aBin (Try.prog.underlying 3) .add (l7.getD 4 .junk).nod (I 1) fun v145 =>
 K9 [(l7.getD 0 .junk), (l7.getD 1 .junk), (l7.getD 2 .junk), (l7.getD 3 .junk), v145.nod] H144)) (
 R [(l7.getD 1 .junk).nod] H8))
 [v1, v4, a1.nod, v6, (I 0)] H5
theorem wf61b : (Nat.ble 2 Try.f61.ntmps && wfC an61b Try.f61.ntmps (Try.f61.body.getD .skip)) = true := by kernel_rfl
theorem tie61b (C : Cb) (a0 a1 : V) (H : Hp) (R : List V → Hp → Prop) : wpG Try.prog C an61b (Try.f61.body.getD .skip) (argF [a0, a1]) H (retG Try.prog C Try.f61 R) (fun _ _ _ => False) (retG Try.prog C Try.f61 R) = vc61b C a0 a1 H R := by kernel_rfl
theorem mk61b (a0 a1 : V) {H : Hp} {v : V} {H1 : Hp} (hd : v.Nd) (hn : H.length ≤ H1.length) (hb : H1 = H ∨ ∀ (b : Nat) (blk : Blk), H1[b]? = some blk → H[b]? = some blk ∨ BelB H1.length blk) (h : vc61b (real Try.prog) a0 a1 H (retF v H1)) : Ret Try.prog 61 [a0, a1] H v H1 :=
 ret_mk (an := an61b) hm Try.call61 Try.func61 rfl wf61b hd hn hb (Eq.mpr (tie61b (real Try.prog) a0 a1 H (retF v H1)) h)
end Go.Proofs.Ytgicpobploinhaa
set_option maxHeartbeats 2000000
namespace Go.Proofs.Ytgicpobploinhaa
open Go Go.Ab Go.Proofs
attribute [local congr] g_bin g_nilS g_nilP g_un g_ext g_bx g_fa g_ld g_st g_ix g_ixA g_slc g_mk g_bs g_bd g_nc g_cv g_len g_lenT g_app g_appB g_cpy g_mm g_call g_callG g_calm g_calmG g_range g_res g_pick g_cond g_loop g_Jv g_eqS g_eqP g_fd g_ixT g_ta g_lkp g_upd g_mkM g_appS g_inv g_callE g_callEG g_invE g_zr g_wr
def gpP (ws : List Wd) (b : List Int) (p : Wd → Int → Bool) (i : Nat) : Bool := p (ws.getD i default) (b.getD i 0)
def cntN (ws : List Wd) (b : List Int) (p : Wd → Int → Bool) (n : Nat) : Nat := ((List.range n).filter (gpP ws b p)).length
theorem cntN_s (ws : List Wd) (b : List Int) (p : Wd → Int → Bool) (n : Nat) : cntN ws b p (n + 1) = if gpP ws b p n = true then cntN ws b p n + 1 else cntN ws b p n := by
 unfold cntN
 rw [List.range_succ, List.filter_append, List.length_append]
 split
 ·rename_i h
  rw [List.filter_cons_of_pos h]; rfl
 ·rename_i h
  rw [List.filter_cons_of_neg h]; rfl
theorem cntN_le (ws : List Wd) (b : List Int) (p : Wd → Int → Bool) (n : Nat) : cntN ws b p n ≤ n := by
 unfold cntN
 exact Nat.le_trans (List.length_filter_le ..) (by simp)
theorem c117 (ws : List Wd) (b : List Int) (g : Nat) (cs : List V) (p : Wd → Int → Bool) (H : Hp) (hb : b.length ≤ ws.length) (hw : ws.length ≤ 1000000) (hg : ∀ w x, Ret Try.prog g ([wdV w, I x] ++ cs) H (B (p w x)) H) : Ret Try.prog 117 [seV ws b, .fn g cs] H (I (cntN ws b p b.length : Nat)) H := by
 refine mk117 _ _ rfl (Nat.le_refl _) (.inl rfl) ?_
 simp only [vc117, real]
 repeat (first | (with_reducible first | refine Ju.go ?_ | (refine Hd.go ?_; intro K Q hK hQ; simp only [nod_agg, List.map_cons, nodL_arr, nd_no, nodL_ints, List.map_nil, e_bxI, okE_agg, lv_cons, List.length_nil, Nat.zero_add, Nat.reduceAdd, all_c, ck_arr, ck_ints, all_n, Bool.and_self, and_true, true_and, nod_cptr, e_fac, Nat.reduceLeDiff, List.getD_cons_succ, List.getD_cons_zero, e_ldci, nod_ints, e_len]; subst hK hQ) | refine Jr.go ?_) | refine sd ?_)
 refine loop_of (fun i : Nat => i ≤ b.length) (fun i => [.fn g cs, .cptr (seV ws b), I (cntN ws b p i : Nat), ints b .no, I b.length, I i]) (fun _ => H) (fun i => b.length - i) 0 (Nat.zero_le _) rfl rfl ?_
 intro i hi
 have hcl := cntN_le ws b p i
 repeat (first | (with_reducible first | refine Ju.go ?_ | (refine Hd.go ?_; intro K Q hK hQ; simp only [List.getD_cons_succ, List.getD_cons_zero, nod_imm, Try.underlying3, e_lss, e_cond, decide_eq_true_eq]; subst hK hQ) | refine Jr.go ?_) | refine sd ?_)
 by_cases hlt : i < b.length
 ·have d : (i : Int) < b.length := by omega
  have d2 : (i : Int) < ws.length := by omega
  have d3 : i < ws.length := by omega
  have r1 : R64 ((i : Int) + 1) := by unfold R64; omega
  have r2 : R64 (((cntN ws b p i : Nat) : Int) + 1) := by unfold R64; omega
  have es := cntN_s ws b p i
  repeat (first | (with_reducible first | refine Ju.go ?_ | (refine Hd.go ?_; intro K Q hK hQ; simp only [d, if_true, List.getD_cons_succ, List.getD_cons_zero, nod_ints, nd_no, nod_imm, e_ix, Int.toNat_natCast, true_and, nod_cptr, e_ldc, e_fac, Nat.zero_add, lv_cons, List.length_nil, Nat.reduceAdd, Nat.reduceLeDiff, e_ldcV, nod_arr, ix_wd, d2, e_ldcA, nod_fn, nod_agg, List.map_cons, nodL_imm, List.map_nil, e_callEG]; subst hK hQ) | refine Jr.go ?_) | refine sd ?_)
  refine call_of (hg _ _) ?_
  cases hp : p (ws.getD i default) (b.getD i 0)
  ·have e : gpP ws b p i = false := hp
   rw [e, if_neg (by decide)] at es
   repeat (first | (with_reducible first | refine Ju.go ?_ | (refine Hd.go ?_; intro K Q hK hQ; simp only [List.getD_cons_zero, List.getD_cons_succ, nod_imm, e_cond, Bool.false_eq_true, if_false, Try.underlying3, e_add, r1, true_and]; subst hK hQ) | refine Jr.go ?_) | refine sd ?_)
   exact ⟨i + 1, hlt, by rw [es]; rfl, rfl, by omega⟩
  ·have e : gpP ws b p i = true := hp
   rw [e, if_pos rfl] at es
   repeat (first | (with_reducible first | refine Ju.go ?_ | (refine Hd.go ?_; intro K Q hK hQ; simp only [List.getD_cons_zero, List.getD_cons_succ, nod_imm, e_cond, if_true, Try.underlying3, e_add, r2, true_and, r1]; subst hK hQ) | refine Jr.go ?_) | refine sd ?_)
   exact ⟨i + 1, hlt, by rw [es]; rfl, rfl, by omega⟩
 ·have d : ¬ (i : Int) < b.length := by omega
  obtain rfl : i = b.length := by omega
  repeat (first | (with_reducible first | refine Ju.go ?_ | (refine Hd.go ?_; intro K Q hK hQ; simp only [d, if_false]; subst hK hQ) | refine Jr.go ?_) | refine sd ?_)
  exact end1 (fzI _)
def cuP (r : Rk) (w : Wd) (x : Int) : Bool := decide (r.l ≤ x) && decide (w.gp < r.b)
def miP (r : Rk) (w : Wd) (x : Int) : Bool := decide (x < r.l) && decide (r.b ≤ w.gp)
def foP (r : Rk) (w : Wd) (x : Int) : Bool := decide (x < r.l) && w.fo
def maP (r : Rk) (_ : Wd) (x : Int) : Bool := decide (r.l ≤ x)
theorem c118 (r : Rk) (w : Wd) (x : Int) (H : Hp) : Ret Try.prog 118 [wdV w, I x, .cptr (rkV r)] H (B (cuP r w x)) H := by
 refine mk118 _ _ _ rfl (Nat.le_refl _) (.inl rfl) ?_
 simp only [vc118, real]
 repeat (first | (with_reducible first | refine Ju.go ?_ | (refine Hd.go ?_; intro K Q hK hQ; simp only [nod_agg, List.map_cons, nodL_imm, List.map_nil, e_bxI, okE_agg, lv_cons, List.length_nil, Nat.zero_add, Nat.reduceAdd, all_c, ck_I, ck_B, all_n, Bool.and_self, and_true, true_and, nod_cptr, e_fac, Nat.reduceLeDiff, List.getD_cons_succ, List.getD_cons_zero, e_ldc, nod_imm, Try.underlying3, e_geq, e_lss, e_gT, j_and', j_one]; subst hK hQ) | refine Jr.go ?_) | refine sd ?_)
 exact end1 (fzI _)
theorem c119 (r : Rk) (w : Wd) (x : Int) (H : Hp) : Ret Try.prog 119 [wdV w, I x, .cptr (rkV r)] H (B (miP r w x)) H := by
 refine mk119 _ _ _ rfl (Nat.le_refl _) (.inl rfl) ?_
 simp only [vc119, real]
 repeat (first | (with_reducible first | refine Ju.go ?_ | (refine Hd.go ?_; intro K Q hK hQ; simp only [nod_agg, List.map_cons, nodL_imm, List.map_nil, e_bxI, okE_agg, lv_cons, List.length_nil, Nat.zero_add, Nat.reduceAdd, all_c, ck_I, ck_B, all_n, Bool.and_self, and_true, true_and, nod_cptr, e_fac, Nat.reduceLeDiff, List.getD_cons_succ, List.getD_cons_zero, e_ldc, nod_imm, Try.underlying3, e_lss, e_geq, e_gT, j_and', j_one]; subst hK hQ) | refine Jr.go ?_) | refine sd ?_)
 exact end1 (fzI _)
theorem c120 (r : Rk) (w : Wd) (x : Int) (H : Hp) : Ret Try.prog 120 [wdV w, I x, .cptr (rkV r)] H (B (foP r w x)) H := by
 refine mk120 _ _ _ rfl (Nat.le_refl _) (.inl rfl) ?_
 simp only [vc120, real]
 repeat (first | (with_reducible first | refine Ju.go ?_ | (refine Hd.go ?_; intro K Q hK hQ; simp only [nod_agg, List.map_cons, nodL_imm, List.map_nil, e_bxI, okE_agg, lv_cons, List.length_nil, Nat.zero_add, Nat.reduceAdd, all_c, ck_I, ck_B, all_n, Bool.and_self, and_true, true_and, nod_cptr, e_fac, Nat.reduceLeDiff, List.getD_cons_succ, List.getD_cons_zero, e_ldc, nod_imm, Try.underlying3, e_lss, e_gT, j_and', j_one]; subst hK hQ) | refine Jr.go ?_) | refine sd ?_)
 exact end1 (fzI _)
theorem c121 (r : Rk) (w : Wd) (x : Int) (H : Hp) : Ret Try.prog 121 [wdV w, I x, .cptr (rkV r)] H (B (maP r w x)) H := by
 refine mk121 _ _ _ rfl (Nat.le_refl _) (.inl rfl) ?_
 simp only [vc121, real]
 repeat (first | (with_reducible first | refine Ju.go ?_ | (refine Hd.go ?_; intro K Q hK hQ; simp only [nod_agg, List.map_cons, nodL_imm, List.map_nil, e_bxI, okE_agg, lv_cons, List.length_nil, Nat.zero_add, Nat.reduceAdd, all_c, ck_I, ck_B, all_n, Bool.and_self, and_true, true_and, nod_cptr, e_fac, Nat.reduceLeDiff, List.getD_cons_succ, List.getD_cons_zero, e_ldc, nod_imm, Try.underlying3, e_geq]; subst hK hQ) | refine Jr.go ?_) | refine sd ?_)
 exact end1 (fzI _)
theorem c110 (ws : List Wd) (b : List Int) (r : Rk) (H : Hp) (hb : b.length ≤ ws.length) (hw : ws.length ≤ 1000000) : Ret Try.prog 110 [seV ws b, rkV r] H (I (cntN ws b (cuP r) b.length : Nat)) H := by
 refine mk110 _ _ rfl (Nat.le_refl _) (.inl rfl) ?_
 simp only [vc110, real]
 repeat (first | (with_reducible first | refine Ju.go ?_ | (refine Hd.go ?_; intro K Q hK hQ; simp only [nod_agg, List.map_cons, nodL_arr, nd_no, nodL_ints, List.map_nil, e_bxI, okE_agg, lv_cons, List.length_nil, Nat.zero_add, Nat.reduceAdd, all_c, ck_arr, ck_ints, all_n, Bool.and_self, and_true, true_and, nodL_imm, ck_I, nod_cptr, e_ldcA]; subst hK hQ) | refine Jr.go ?_) | refine sd ?_)
 refine call_of (c117 ws b 118 _ (cuP r) H hb hw fun w x => c118 r w x H) ?_
 repeat (first | (with_reducible first | refine Ju.go ?_ | (refine Hd.go ?_; intro K Q hK hQ; simp only []; subst hK hQ) | refine Jr.go ?_) | refine sd ?_)
 exact end1 (fzI _)
theorem c111 (ws : List Wd) (b : List Int) (r : Rk) (H : Hp) (hb : b.length ≤ ws.length) (hw : ws.length ≤ 1000000) : Ret Try.prog 111 [seV ws b, rkV r] H (I (cntN ws b (miP r) b.length : Nat)) H := by
 refine mk111 _ _ rfl (Nat.le_refl _) (.inl rfl) ?_
 simp only [vc111, real]
 repeat (first | (with_reducible first | refine Ju.go ?_ | (refine Hd.go ?_; intro K Q hK hQ; simp only [nod_agg, List.map_cons, nodL_arr, nd_no, nodL_ints, List.map_nil, e_bxI, okE_agg, lv_cons, List.length_nil, Nat.zero_add, Nat.reduceAdd, all_c, ck_arr, ck_ints, all_n, Bool.and_self, and_true, true_and, nodL_imm, ck_I, nod_cptr, e_ldcA]; subst hK hQ) | refine Jr.go ?_) | refine sd ?_)
 refine call_of (c117 ws b 119 _ (miP r) H hb hw fun w x => c119 r w x H) ?_
 repeat (first | (with_reducible first | refine Ju.go ?_ | (refine Hd.go ?_; intro K Q hK hQ; simp only []; subst hK hQ) | refine Jr.go ?_) | refine sd ?_)
 exact end1 (fzI _)
theorem c112 (ws : List Wd) (b : List Int) (r : Rk) (H : Hp) (hb : b.length ≤ ws.length) (hw : ws.length ≤ 1000000) : Ret Try.prog 112 [seV ws b, rkV r] H (I (cntN ws b (foP r) b.length : Nat)) H := by
 refine mk112 _ _ rfl (Nat.le_refl _) (.inl rfl) ?_
 simp only [vc112, real]
 repeat (first | (with_reducible first | refine Ju.go ?_ | (refine Hd.go ?_; intro K Q hK hQ; simp only [nod_agg, List.map_cons, nodL_arr, nd_no, nodL_ints, List.map_nil, e_bxI, okE_agg, lv_cons, List.length_nil, Nat.zero_add, Nat.reduceAdd, all_c, ck_arr, ck_ints, all_n, Bool.and_self, and_true, true_and, nodL_imm, ck_I, nod_cptr, e_ldcA]; subst hK hQ) | refine Jr.go ?_) | refine sd ?_)
 refine call_of (c117 ws b 120 _ (foP r) H hb hw fun w x => c120 r w x H) ?_
 repeat (first | (with_reducible first | refine Ju.go ?_ | (refine Hd.go ?_; intro K Q hK hQ; simp only []; subst hK hQ) | refine Jr.go ?_) | refine sd ?_)
 exact end1 (fzI _)
theorem c113 (ws : List Wd) (b : List Int) (r : Rk) (H : Hp) (hb : b.length ≤ ws.length) (hw : ws.length ≤ 1000000) (hr : okRk r = true) : Ret Try.prog 113 [seV ws b, rkV r] H (I (max 0 ((cntN ws b (maP r) b.length : Nat) - r.b))) H := by
 have hr' := okRk_p hr
 have hc := cntN_le ws b (maP r) b.length
 have r1 : R64 (((cntN ws b (maP r) b.length : Nat) : Int) - r.b) := by unfold R64; omega
 refine mk113 _ _ rfl (Nat.le_refl _) (.inl rfl) ?_
 simp only [vc113, real]
 repeat (first | (with_reducible first | refine Ju.go ?_ | (refine Hd.go ?_; intro K Q hK hQ; simp only [nod_agg, List.map_cons, nodL_arr, nd_no, nodL_ints, List.map_nil, e_bxI, okE_agg, lv_cons, List.length_nil, Nat.zero_add, Nat.reduceAdd, all_c, ck_arr, ck_ints, all_n, Bool.and_self, and_true, true_and, nodL_imm, ck_I, nod_cptr, e_ldcA]; subst hK hQ) | refine Jr.go ?_) | refine sd ?_)
 refine calm_of (fun H => c117 ws b 121 _ (maP r) H hb hw fun w x => c121 r w x H) ?_
 repeat (first | (with_reducible first | refine Ju.go ?_ | (refine Hd.go ?_; intro K Q hK hQ; simp only [nod_cptr, e_fac, Nat.reduceAdd, lv_cons, List.length_nil, Nat.zero_add, Nat.reduceLeDiff, List.getD_cons_succ, List.getD_cons_zero, true_and, e_ldc, nod_imm, Try.underlying3, e_sub, r1, e_max2]; subst hK hQ) | refine Jr.go ?_) | refine sd ?_)
 exact end1 (fzI _)
def vio (ws : List Wd) (b : List Int) (r : Rk) : Int :=
 if r.k = 1 then lgS ws r.b (phs b r.l ws.length)
 else if r.k = 2 then shS ws r.b (phs b r.l ws.length)
 else if r.k = 3 then (cntN ws b (cuP r) b.length : Nat)
 else if r.k = 4 then (cntN ws b (miP r) b.length : Nat)
 else if r.k = 5 then (cntN ws b (foP r) b.length : Nat)
 else max 0 ((cntN ws b (maP r) b.length : Nat) - r.b)
def fnO (k : Int) : Nat := if k = 1 then 108 else if k = 2 then 109 else if k = 3 then 110 else if k = 4 then 111 else if k = 5 then 112 else 113
theorem cvio (ws : List Wd) (b : List Int) (r : Rk) (H : Hp) (hw : okWs ws = true) (hr : okRk r = true) (hb : okBr b ws.length = true) : Ret Try.prog (fnO r.k) [seV ws b, rkV r] H (I (vio ws b r)) H := by
 have hr' := okRk_p hr
 have hwl : ws.length ≤ 60 := by
  unfold okWs at hw
  rw [Bool.and_eq_true, decide_eq_true_eq] at hw
  exact hw.1
 have hbl : b.length ≤ ws.length := by
  unfold okBr at hb
  rw [Bool.and_eq_true, decide_eq_true_eq] at hb
  omega
 unfold fnO vio
 by_cases h1 : r.k = 1
 ·rw [if_pos h1, if_pos h1]; exact c108 ws b r H hw hr (by omega)
 ·rw [if_neg h1, if_neg h1]
  by_cases h2 : r.k = 2
  ·rw [if_pos h2, if_pos h2]; exact c109 ws b r H hw hr (by omega)
  ·rw [if_neg h2, if_neg h2]
   by_cases h3 : r.k = 3
   ·rw [if_pos h3, if_pos h3]; exact c110 ws b r H hbl (by omega)
   ·rw [if_neg h3, if_neg h3]
    by_cases h4 : r.k = 4
    ·rw [if_pos h4, if_pos h4]; exact c111 ws b r H hbl (by omega)
    ·rw [if_neg h4, if_neg h4]
     by_cases h5 : r.k = 5
     ·rw [if_pos h5, if_pos h5]; exact c112 ws b r H hbl (by omega)
     ·rw [if_neg h5, if_neg h5]; exact c113 ws b r H hbl (by omega) hr
theorem lv96 : lvT Try.prog 10000 96 = some [.int] := by kernel_rfl
theorem ag96 : agT Try.prog 96 = false := by kernel_rfl
theorem upd96 {H : Hp} {b : Nat} {es : List (V × V)} {k v : V} {KH : V → Hp → Prop} (hH : H[b]? = some (.mp es)) (hf : findE false [.int] k es 0 = some none) (hk : (kEq false [.int] k k).isSome = true) : aUpd Try.prog 96 (.map b) k v H KH = KH .junk (H.set b (.mp (es ++ [(k, v)]))) := by
 unfold aUpd
 dsimp only
 rw [hH]
 dsimp only
 refine propext ⟨fun ⟨ls, r', g1, g2, _, g4⟩ => ?_, fun h => ⟨_, none, lv96, by rw [ag96]; exact hf, by rw [ag96]; exact hk, h⟩⟩
 obtain rfl : ls = _ := Option.some.inj (g1.symm.trans lv96)
 rw [ag96] at g2
 obtain rfl : r' = none := Option.some.inj (g2.symm.trans hf)
 exact g4
theorem lkp96 {H : Hp} {b : Nat} {es : List (V × V)} {k u z : V} {q : Nat} {K : V → Prop} (hH : H[b]? = some (.mp es)) (hf : findE false [.int] k es 0 = some (some (q, u))) (hk : (kEq false [.int] k k).isSome = true) : aLkp Try.prog 96 z false (.map b) k H K = K u := by
 unfold aLkp
 dsimp only
 rw [hH]
 dsimp only
 refine propext ⟨fun ⟨ls, r', g1, g2, _, g4⟩ => ?_, fun h => ⟨_, some (q, u), lv96, by rw [ag96]; exact hf, by rw [ag96]; exact hk, h⟩⟩
 obtain rfl : ls = _ := Option.some.inj (g1.symm.trans lv96)
 rw [ag96] at g2
 obtain rfl : r' = some (q, u) := Option.some.inj (g2.symm.trans hf)
 exact g4
def cmE : List (V × V) := [(I 1, .fn 108 []), (I 2, .fn 109 []), (I 3, .fn 110 []), (I 4, .fn 111 []), (I 5, .fn 112 []), (I 6, .fn 113 [])]
theorem cmE_find {k : Int} (h : 1 ≤ k ∧ k ≤ 6) : ∃ q, findE false [.int] (I k) cmE 0 = some (some (q, .fn (fnO k) [])) := by
 have : k = 1 ∨ k = 2 ∨ k = 3 ∨ k = 4 ∨ k = 5 ∨ k = 6 := by omega
 rcases this with rfl | rfl | rfl | rfl | rfl | rfl
 ·exact ⟨0, rfl⟩
 ·exact ⟨1, rfl⟩
 ·exact ⟨2, rfl⟩
 ·exact ⟨3, rfl⟩
 ·exact ⟨4, rfl⟩
 ·exact ⟨5, rfl⟩
theorem bel_cmE (n : Nat) : ∀ e, e ∈ cmE → Bel n e.1 ∧ Bel n e.2 := fun e he => by
 have hf : ∀ g, Bel n (.fn g []) := fun g => .fn _ _ fun c hc => by cases hc
 simp only [cmE, List.mem_cons, List.not_mem_nil, or_false] at he
 rcases he with rfl | rfl | rfl | rfl | rfl | rfl <;> exact ⟨.imm _, hf _⟩
theorem c90 (H : Hp) : Ret Try.prog 90 [] H (.map H.length) (H ++ [.mp cmE]) := by
 refine mk90 rfl (by simp) (.inr fun i blk hi => ?_) ?_
 ·by_cases h : i < H.length
  ·rw [List.getElem?_append_left h] at hi; exact .inl hi
  ·right
   have h2 := get_lt hi
   rw [List.length_append, List.length_singleton] at h2
   obtain rfl : i = H.length := by omega
   rw [tail0] at hi
   cases hi
   exact bel_cmE _
 ·simp only [vc90, real]
  repeat (first | (with_reducible first | refine Ju.go ?_ | (refine Hd.go ?_; intro K Q hK hQ; simp only [e_mkM, nod_map]; subst hK hQ) | refine Jr.go ?_) | refine sd ?_)
  refine Eq.mpr (upd96 (tail0 _ _) rfl rfl) ?_
  rw [set_last]
  refine Eq.mpr (upd96 (tail0 _ _) rfl rfl) ?_
  rw [set_last]
  refine Eq.mpr (upd96 (tail0 _ _) rfl rfl) ?_
  rw [set_last]
  refine Eq.mpr (upd96 (tail0 _ _) rfl rfl) ?_
  rw [set_last]
  refine Eq.mpr (upd96 (tail0 _ _) rfl rfl) ?_
  rw [set_last]
  refine Eq.mpr (upd96 (tail0 _ _) rfl rfl) ?_
  rw [set_last]
  exact ⟨.keep _ (.map _ (by simp)), List.take_of_length_le (by simp)⟩
def upV (l : List Int) (i : Nat) : List Int := l.take i ++ List.replicate (l.length - i) 0
theorem upV_len (l : List Int) (i : Nat) : (upV l i).length = l.length := by
 unfold upV
 rw [List.length_append, List.length_take, List.length_replicate]; omega
theorem upV_set (l : List Int) {i : Nat} (h : i < l.length) : (upV l i).set i (l.getD i 0) = upV l (i + 1) := by
 unfold upV
 rw [List.set_append_right _ _ (by rw [List.length_take]; omega), take_snocA l 0 h, List.append_assoc]
 congr 1
 rw [List.length_take, show i - min i l.length = 0 by omega, show l.length - i = (l.length - (i + 1)) + 1 by omega, List.replicate_succ]; rfl
theorem upV_0 (l : List Int) : upV l 0 = List.replicate l.length 0 := by unfold upV; simp
theorem upV_end (l : List Int) : upV l l.length = l := by unfold upV; simp
def vios (ws : List Wd) (b : List Int) (rs : List Rk) : List Int := rs.map (vio ws b)
theorem vios_len (ws : List Wd) (b : List Int) (rs : List Rk) : (vios ws b rs).length = rs.length := List.length_map ..
theorem vios_get (ws : List Wd) (b : List Int) (rs : List Rk) {i : Nat} (h : i < rs.length) : (vios ws b rs).getD i 0 = vio ws b (rs.getD i default) := by
 unfold vios
 rw [List.getD_eq_getElem?_getD, List.getElem?_map, List.getElem?_eq_getElem h, List.getD_eq_getElem?_getD, List.getElem?_eq_getElem h]; rfl
theorem c61 (ws : List Wd) (b : List Int) (rs : List Rk) (H : Hp) (hw : okWs ws = true) (hr : okRs rs = true) (hb : okBr b ws.length = true) : Ret Try.prog 61 [seV ws b, .arr (rs.map rkV) .no] H (ints (vios ws b rs) .no) H := by
 unfold okRs at hr
 rw [Bool.and_eq_true, decide_eq_true_eq, List.all_eq_true] at hr
 have hl := vios_len ws b rs
 refine mk61b _ _ rfl (Nat.le_refl _) (.inl rfl) ?_
 simp only [vc61b, real]
 repeat (first | (with_reducible first | refine Ju.go ?_ | (refine Hd.go ?_; intro K Q hK hQ; simp only [nod_agg, List.map_cons, nodL_arr, nd_no, nodL_ints, List.map_nil, e_bxI, okE_agg, lv_cons, List.length_nil, Nat.zero_add, Nat.reduceAdd, all_c, ck_arr, ck_ints, all_n, Bool.and_self, and_true, true_and, nod_arr, e_lenA, List.length_map, nod_imm, e_mkI, Int.cast_ofNat_Int, Int.toNat_natCast]; subst hK hQ) | refine Jr.go ?_) | refine sd ?_)
 refine loop_of (fun q : Nat × Hp => q.1 ≤ rs.length ∧ q.2[H.length]? = some (.cells ((upV (vios ws b rs) q.1).map I)) ∧ H.length ≤ q.2.length ∧ ∀ c, c < H.length → q.2[c]? = H[c]?) (fun q => [.cptr (seV ws b), .sl H.length 0 rs.length rs.length 1, .arr (rs.map rkV) .no, I rs.length, I q.1]) (·.2) (fun q => rs.length - q.1) (0, _) ⟨Nat.zero_le _, by rw [upV_0, hl]; exact tail0 _ _, by simp, fun c hc => List.getElem?_append_left hc⟩ rfl rfl ?_
 rintro ⟨i, G⟩ ⟨hi, hG, hln, hlo⟩
 simp only at hi hG hln hlo ⊢
 repeat (first | (with_reducible first | refine Ju.go ?_ | (refine Hd.go ?_; intro K Q hK hQ; simp only [List.getD_cons_succ, List.getD_cons_zero, nod_imm, Try.underlying3, e_lss, e_cond, decide_eq_true_eq]; subst hK hQ) | refine Jr.go ?_) | refine sd ?_)
 by_cases hlt : i < rs.length
 ·have d : (i : Int) < rs.length := by omega
  have hrk := hr.2 _ (getD_memA rs default hlt)
  have hrk' := okRk_p hrk
  have hv := vios_get ws b rs hlt
  have cv := fun H => cvio ws b (rs.getD i default) H hw hrk hb
  repeat (first | (with_reducible first | refine Ju.go ?_ | (refine Hd.go ?_; intro K Q hK hQ; simp only [d, if_true, List.getD_cons_succ, List.getD_cons_zero, nod_arr, nd_no, nod_imm, ix_rk, Int.toNat_natCast, true_and, nod_cptr, e_ldcA, lv_cons, List.length_nil, Nat.zero_add, Nat.reduceAdd, e_bx, okE_agg, all_c, ck_I, all_n, Bool.and_self, and_true, cl_agg, nod_ptr, e_sc0, Nat.reduceLeDiff, stV_agg, List.map_cons, nodL_imm, List.map_nil, spl_0, spl_n]; subst hK hQ) | refine Jr.go ?_) | refine sd ?_)
  generalize rs.getD i default = r at *
  have gR : (G ++ [Blk.cells [I r.k, I r.l, I r.b]])[G.length]? = some (.cells [I r.k, I r.l, I r.b]) := tail0 _ _
  have gR2 : (G ++ [Blk.cells [I r.k, I r.l, I r.b], Blk.mp cmE])[G.length]? = some (.cells [I r.k, I r.l, I r.b]) := tail0 _ _
  have gM : (G ++ [Blk.cells [I r.k, I r.l, I r.b], Blk.mp cmE])[G.length + 1]? = some (.mp cmE) := by
   rw [List.getElem?_append_right (by omega)]; simp
  have gO : (G ++ [Blk.cells [I r.k, I r.l, I r.b], Blk.mp cmE])[H.length]? = some (.cells ((upV (vios ws b rs) i).map I)) := get_app hG
  have hul : i < (upV (vios ws b rs) i).length := by rw [upV_len]; omega
  have hus := upV_set (vios ws b rs) (i := i) (by omega)
  rw [hv] at hus
  have r1 : R64 ((i : Int) + 1) := by unfold R64; omega
  obtain ⟨q, hq⟩ := cmE_find hrk'.1
  refine ⟨?_, ?_, ?_, ?_, ?_, ?_, ?_, ?_⟩
  all_goals
   repeat (first | (with_reducible first | refine Ju.go ?_ | (refine Hd.go ?_; intro K Q hK hQ; simp only [nod_ptr, e_fa, Nat.add_zero, ld_at gR, Nat.zero_add, lv_cons, List.length_nil, Nat.reduceAdd, Nat.reduceLeDiff, List.getD_cons_zero, nod_imm, true_and, nod_cptr, e_ldcA, ldA_at gR, dr_0, tk_s, tk_0, nod_agg, List.map_cons, nodL_imm, List.map_nil]; subst hK hQ) | refine Jr.go ?_) | refine sd ?_)
   refine call_ofD (c90 _) ?_
   repeat (first | (with_reducible first | refine Ju.go ?_ | (refine Hd.go ?_; intro K Q hK hQ; simp only [hp_len, hp_len_cons, List.length_nil, Nat.zero_add, nod_map, nod_imm, hp_assoc, hp_cons, hp_nil, nod_ptr, ld_at gR2, lv_cons, Nat.reduceAdd, Nat.reduceLeDiff, List.getD_cons_zero, true_and, e_fa, Nat.add_zero]; subst hK hQ) | refine Jr.go ?_) | refine sd ?_)
   refine Eq.mpr (lkp96 gM hq rfl) ?_
   repeat (first | (with_reducible first | refine Ju.go ?_ | (refine Hd.go ?_; intro K Q hK hQ; simp only [nod_fn, nod_agg, List.map_cons, nodL_arr, nd_no, nodL_ints, List.map_nil, nodL_imm, hp_assoc, hp_cons, hp_nil, e_callG, List.getD_cons_zero, nod_cptr, e_ldcA, lv_cons, List.length_nil, Nat.zero_add, Nat.reduceAdd, true_and, nod_ptr, ldA_at gR2, Nat.reduceLeDiff, dr_0, tk_s, tk_0]; subst hK hQ) | refine Jr.go ?_) | refine sd ?_)
   refine call_ofD (cv _) ?_
   repeat (first | (with_reducible first | refine Ju.go ?_ | (refine Hd.go ?_; intro K Q hK hQ; simp only [List.getD_cons_succ, List.getD_cons_zero, nod_sl, nod_imm, e_ixS, d, Int.toNat_natCast, Nat.mul_one, Nat.zero_add, true_and, nod_ptr, stI_at gO, hul, hus, Try.underlying3, e_add, r1]; subst hK hQ) | refine Jr.go ?_) | refine sd ?_)
   refine ⟨(i + 1, _), ⟨hlt, List.getElem?_set_self (get_lt gO), ?_, fun c hc => ?_⟩, rfl, rfl, by show rs.length - (i + 1) < rs.length - i; omega⟩
   ·show H.length ≤ (List.set _ _ _).length
    rw [List.length_set, List.length_append]; omega
   ·show (List.set _ _ _)[c]? = _
    rw [get_ne (by omega), List.getElem?_append_left (by omega)]; exact hlo c hc
 ·have d : ¬ (i : Int) < rs.length := by omega
  obtain rfl : i = rs.length := by omega
  rw [← hl, upV_end] at hG
  repeat (first | (with_reducible first | refine Ju.go ?_ | (refine Hd.go ?_; intro K Q hK hQ; simp only [d, if_false]; subst hK hQ) | refine Jr.go ?_) | refine sd ?_)
  refine end1T ?_ (take_low hlo hln)
  exact fz_ints (Nat.le_refl _) hG hl
abbrev prV (p : Nat × Nat) : V := .agg [I p.1, I p.2]
theorem ix_pr (l : List (Nat × Nat)) (f : Fl) (i : Int) {K : V → Prop} : aIx 2 (.arr (l.map prV) f) (I i) K = (0 ≤ i ∧ i < l.length ∧ K (.cptr (prV (l.getD i.toNat default)))) := e_ixE prV default (fun _ => rfl) l f i
theorem bs_pr (x y : Int) (z : V) (K : V → Prop) : aBS 2 1 z [(0, .agg [I x, I y])] K = K (.arr [.agg [I x, I y]] .full) := by
 have h : okE 2 (.agg [I x, I y]) = True := eq_true ⟨rfl, fun c hc => by
  simp only [V.cl, List.mem_cons, List.not_mem_nil, or_false] at hc
  rcases hc with rfl | rfl <;> rfl⟩
 simp [aBS, aPs, setP, h]
theorem bel_prs (n : Nat) (l : List (Nat × Nat)) (f : Fl) : Bel n (.arr (l.map prV) f) := bel_E (e := prV) (fun x => .agg _ fun c hc => by
 simp only [List.mem_cons, List.not_mem_nil, or_false] at hc
 rcases hc with rfl | rfl <;> exact .imm _) l f
theorem c47 (b : List Int) (n : Nat) (l : Int) (H : Hp) (hn : n ≤ 1000000) (hb : b.length = n - 1) : Ret Try.prog 47 [ints b .no, I n, I l] H (.arr ((phs b l n).map prV) .no) H := by
 refine mk47 _ _ _ rfl (Nat.le_refl _) (.inl rfl) ?_
 simp only [vc47, real]
 refine loop_of (fun q : Nat × Fl => q.1 ≤ n ∧ q.2.ap = true ∧ ((q.2 = .full ∧ phs b l q.1 = []) ∨ q.2 = .own)) (fun q => [ints b .no, I n, I l, .arr ((phs b l q.1).map prV) q.2, I (phF b l q.1), I q.1]) (fun _ => H) (fun q => n - q.1) (0, .full) ⟨Nat.zero_le _, rfl, .inl ⟨rfl, rfl⟩⟩ rfl rfl ?_
 rintro ⟨i, f⟩ ⟨hi, hap, hff⟩
 simp only at hi hap hff ⊢
 have hpl := phs_len b l i
 repeat (first | (with_reducible first | refine Ju.go ?_ | (refine Hd.go ?_; intro K Q hK hQ; simp only [List.getD_cons_succ, List.getD_cons_zero, nod_imm, Try.underlying3, e_lss, e_cond, decide_eq_true_eq]; subst hK hQ) | refine Jr.go ?_) | refine sd ?_)
 by_cases hlt : i < n
 ·have d : (i : Int) < n := by omega
  have ef : phF b l (i + 1) = if cutB b l i = true then i + 1 else phF b l i := rfl
  have ep : phs b l (i + 1) = if cutB b l i = true then phs b l i ++ [(phF b l i, i + 1)] else phs b l i := rfl
  have r0 : R64 ((n : Int) - 1) := by unfold R64; omega
  have r1 : R64 ((i : Int) + 1) := by unfold R64; omega
  repeat (first | (with_reducible first | refine Ju.go ?_ | (refine Hd.go ?_; intro K Q hK hQ; simp only [d, if_true, List.getD_cons_succ, List.getD_cons_zero, nod_imm, Try.underlying3, e_sub, r0, true_and, e_eql, nod_ints, nd_no, e_ix, Int.toNat_natCast, nod_cptr, e_ldc, e_geq, e_gF, j_fl, decide_eq_false_iff_not, j_or', j_side, j_one, e_cond]; subst hK hQ) | refine Jr.go ?_) | refine sd ?_)
  have ec : (decide ((i : Int) = (n : Int) - 1) || decide (l ≤ b.getD i 0)) = cutB b l i := by
   unfold cutB
   by_cases he : i = n - 1
   ·rw [decide_eq_true (show (i : Int) = (n : Int) - 1 by omega), decide_eq_false (show ¬ i < b.length by omega)]; rfl
   ·rw [decide_eq_false (show ¬ (i : Int) = (n : Int) - 1 by omega), decide_eq_true (show i < b.length by omega), Bool.false_or, Bool.true_and, ← decide_not, decide_eq_decide]; omega
  rw [ec]
  cases hc : cutB b l i
  ·rw [hc, if_neg (by decide)] at ef ep
   repeat (first | (with_reducible first | refine Ju.go ?_ | (refine Hd.go ?_; intro K Q hK hQ; simp only [Bool.false_eq_true, if_false, List.getD_cons_zero, List.getD_cons_succ, nod_imm, Try.underlying3, e_add, r1, true_and]; subst hK hQ) | refine Jr.go ?_) | refine sd ?_)
   exact ⟨(i + 1, f), ⟨hlt, hap, by show (f = .full ∧ phs b l (i + 1) = []) ∨ f = .own; rw [ep]; exact hff⟩, by show [_, _, _, V.arr ((phs b l (i + 1)).map prV) f, I (phF b l (i + 1) : Nat), _] = _; rw [ef, ep]; rfl, rfl, by show n - (i + 1) < n - i; omega⟩
  ·rw [hc, if_pos rfl] at ef ep
   repeat (first | (with_reducible first | refine Ju.go ?_ | (refine Hd.go ?_; intro K Q hK hQ; simp only [if_true, List.getD_cons_succ, List.getD_cons_zero, nod_imm, Try.underlying3, e_add, r1, true_and, e_bd1, okE_I, Nat.zero_add, lv_cons, List.length_nil, Nat.reduceAdd, Nat.reduceLeDiff, cl_imm, spl_0, spl_n, spl_s, e_bd0, own0_imm, nod_agg, List.map_cons, nodL_imm, List.map_nil]; subst hK hQ) | refine Jr.go ?_) | refine sd ?_)
   refine Eq.mpr (bs_pr (phF b l i : Nat) ((i : Int) + 1) _ _) ?_
   refine Eq.mpr (e_appE prV (fun _ => rfl) 16 (phs b l i) [(phF b l i, i + 1)] f .full) ⟨hap, by simp; omega, ?_⟩
   rw [← ep]
   repeat (first | (with_reducible first | refine Ju.go ?_ | (refine Hd.go ?_; intro K Q hK hQ; simp only [List.getD_cons_succ, List.getD_cons_zero, nod_imm, Try.underlying3, e_add, r1, true_and]; subst hK hQ) | refine Jr.go ?_) | refine sd ?_)
   exact ⟨(i + 1, .own), ⟨hlt, rfl, .inr rfl⟩, by show [_, _, _, V.arr ((phs b l (i + 1)).map prV) .own, I (phF b l (i + 1) : Nat), _] = _; rw [ef]; rfl, rfl, by show n - (i + 1) < n - i; omega⟩
 ·have d : ¬ (i : Int) < n := by omega
  obtain rfl : i = n := by omega
  repeat (first | (with_reducible first | refine Ju.go ?_ | (refine Hd.go ?_; intro K Q hK hQ; simp only [d, if_false]; subst hK hQ) | refine Jr.go ?_) | refine sd ?_)
  rcases hff with ⟨rfl, h⟩ | rfl
  ·rw [h]
   exact end1 (.full [] (bel_prs _ [] .full))
  ·exact end1 (.keep _ (bel_prs _ _ _))
theorem syS_snoc (l : List Wd) (w : Wd) : syS (l ++ [w]) = syS l + w.sy := by
 unfold syS; rw [List.map_append, List.sum_append]; simp
theorem seg_s (ws : List Wd) {f k : Nat} (h : f ≤ k) (hk : k < ws.length) : syS ((ws.take (k + 1)).drop f) = syS ((ws.take k).drop f) + (ws.getD k default).sy := by
 rw [take_snocA ws default hk, List.drop_append_of_le_length (by rw [List.length_take]; omega), syS_snoc]
def pkP (r : Rk) : Wd → Int → Bool := if r.k = 3 then cuP r else if r.k = 4 then miP r else if r.k = 5 then foP r else maP r
def phV (ws : List Wd) (r : Rk) (ps : List (Nat × Nat)) : Int := if r.k = 1 then lgS ws r.b ps else shS ws r.b ps
def phA (ws : List Wd) (r : Rk) (p : Nat × Nat) : Int := if r.k = 1 then max 0 (segS ws p - r.b) else max 0 (r.b - segS ws p)
theorem phV_s (ws : List Wd) (r : Rk) (ps : List (Nat × Nat)) {j : Nat} (h : j < ps.length) : phV ws r (ps.take (j + 1)) = phV ws r (ps.take j) + phA ws r (ps.getD j default) := by
 unfold phV phA
 rw [take_snocA ps default h]
 split
 ·exact lgS_snoc ..
 ·exact shS_snoc ..
theorem phV_0 (ws : List Wd) (r : Rk) : phV ws r [] = 0 := by unfold phV; split <;> rfl
theorem cutA0 (x y : Int) : cutA (Int.toNat 0) 1 false [I x, I y] = I x := rfl
theorem cutA1 (x y : Int) : cutA (Int.toNat 1) 1 false [I x, I y] = I y := rfl
theorem c74 (ws : List Wd) (b : List Int) (r : Rk) (H : Hp) (hw : okWs ws = true) (hr : okRk r = true) (hb : okBr b ws.length = true) : Ret Try.prog 74 [.arr (ws.map wdV) .no, rkV r, ints b .no] H (I (vio ws b r)) H := by
 have hr' := okRk_p hr
 have hw2 := hw
 unfold okWs at hw2
 rw [Bool.and_eq_true, decide_eq_true_eq, List.all_eq_true] at hw2
 have hwl := hw2.1
 have hb2 := hb
 unfold okBr at hb2
 rw [Bool.and_eq_true, decide_eq_true_eq] at hb2
 have hbl := hb2.1
 refine mk74 _ _ _ rfl (Nat.le_refl _) (.inl rfl) ?_
 simp only [vc74, real]
 repeat (first | (with_reducible first | refine Ju.go ?_ | (refine Hd.go ?_; intro K Q hK hQ; simp only [nod_agg, List.map_cons, nodL_imm, List.map_nil, e_bxI, okE_agg, lv_cons, List.length_nil, Nat.zero_add, Nat.reduceAdd, all_c, ck_I, all_n, Bool.and_self, and_true, true_and, nod_cptr, e_fac, Nat.reduceLeDiff, List.getD_cons_zero, e_ldc, nod_imm, e_eql, e_gF, j_or', j_one, List.getD_cons_succ, e_cond]; subst hK hQ) | refine Jr.go ?_) | refine sd ?_)
 by_cases h12 : r.k = 1 ∨ r.k = 2
 ·have e0 : (decide (r.k = 1) || decide (r.k = 2)) = true := by rw [Bool.or_eq_true, decide_eq_true_eq, decide_eq_true_eq]; exact h12
  have ev : vio ws b r = phV ws r (phs b r.l ws.length) := by
   unfold vio phV
   by_cases h1 : r.k = 1
   ·rw [if_pos h1, if_pos h1]
   ·rw [if_neg h1, if_neg h1, if_pos (by omega)]
  rw [ev]
  repeat (first | (with_reducible first | refine Ju.go ?_ | (refine Hd.go ?_; intro K Q hK hQ; simp only [e0, if_true, List.getD_cons_zero, nod_arr, nd_no, e_lenA, List.length_map, List.getD_cons_succ, nod_cptr, e_fac, Nat.reduceAdd, lv_cons, List.length_nil, Nat.zero_add, Nat.reduceLeDiff, true_and, e_ldc, nod_ints, nod_imm]; subst hK hQ) | refine Jr.go ?_) | refine sd ?_)
  refine call_of (c47 b ws.length r.l H (by omega) hbl) ?_
  have hps := phs_mem b r.l ws.length
  have hpl := phs_len b r.l ws.length
  generalize phs b r.l ws.length = ps at *
  repeat (first | (with_reducible first | refine Ju.go ?_ | (refine Hd.go ?_; intro K Q hK hQ; simp only []; subst hK hQ) | refine Jr.go ?_) | refine sd ?_)
  refine loop_of (fun j : Nat => j ≤ ps.length) (fun j => [.arr (ws.map wdV) .no, .cptr (rkV r), I (phV ws r (ps.take j)), .arr (ps.map prV) .no, I j]) (fun _ => H) (fun j => ps.length - j) 0 (Nat.zero_le _) (by show [_, _, I (phV ws r []), _, _] = _; rw [phV_0]; rfl) rfl ?_
  intro j hj
  repeat (first | (with_reducible first | refine Ju.go ?_ | (refine Hd.go ?_; intro K Q hK hQ; simp only [List.getD_cons_succ, List.getD_cons_zero, nod_arr, nd_no, e_lenA, List.length_map, nod_imm, Try.underlying3, e_lss, e_cond, decide_eq_true_eq]; subst hK hQ) | refine Jr.go ?_) | refine sd ?_)
  by_cases hlt : j < ps.length
  ·have d : (j : Int) < ps.length := by omega
   have hp := hps _ (getD_memA ps default hlt)
   have es := phV_s ws r ps hlt
   have hA : 0 ≤ phA ws r (ps.getD j default) ∧ phA ws r (ps.getD j default) ≤ 1200 := by
    have := seg_ok hw (ps.getD j default)
    unfold phA
    split <;> omega
   have hV : 0 ≤ phV ws r (ps.take j) ∧ phV ws r (ps.take j) ≤ 60 * 1200 := by
    have h1 := lgS_rng hw hr'.2.2 (ps.take j)
    have h2 := shS_rng hw hr'.2.2 (ps.take j)
    have h3 : (ps.take j).length ≤ 60 := by rw [List.length_take]; omega
    unfold phV
    split <;> omega
   have eA : phA ws r (ps.getD j default) = if r.k = 1 then max 0 (segS ws (ps.getD j default) - r.b) else max 0 (r.b - segS ws (ps.getD j default)) := rfl
   repeat (first | (with_reducible first | refine Ju.go ?_ | (refine Hd.go ?_; intro K Q hK hQ; simp only [d, if_true, List.getD_cons_succ, List.getD_cons_zero, nod_arr, nd_no, nod_imm, ix_pr, Int.toNat_natCast, true_and, nod_cptr, Nat.mul_one]; subst hK hQ) | refine Jr.go ?_) | refine sd ?_)
   generalize hg : ps.getD j default = p at *
   repeat (first | (with_reducible first | refine Ju.go ?_ | (refine Hd.go ?_; intro K Q hK hQ; simp only [cutA0, e_ldc]; subst hK hQ) | refine Jr.go ?_) | refine sd ?_)
   refine loop_of (fun k : Nat => p.1 ≤ k ∧ k ≤ p.2) (fun k => [.arr (ws.map wdV) .no, .cptr (rkV r), I (phV ws r (ps.take j)), .arr (ps.map prV) .no, I j, I (syS ((ws.take k).drop p.1)), I k]) (fun _ => H) (fun k => p.2 - k) p.1 ⟨Nat.le_refl _, by omega⟩ (by show [_, _, _, _, _, I (syS ((ws.take p.1).drop p.1)), _] = _; rw [List.drop_of_length_le (by rw [List.length_take]; omega)]; rfl) rfl ?_
   rintro k ⟨hk1, hk2⟩
   repeat (first | (with_reducible first | refine Ju.go ?_ | (refine Hd.go ?_; intro K Q hK hQ; simp only [List.getD_cons_succ, List.getD_cons_zero, nod_arr, nd_no, nod_imm, ix_pr, d, Int.toNat_natCast, hg, true_and, nod_cptr, Nat.mul_one, cutA1, e_ldc, Try.underlying3, e_lss, e_cond, decide_eq_true_eq]; subst hK hQ) | refine Jr.go ?_) | refine sd ?_)
   by_cases hkl : k < p.2
   ·have dk : (k : Int) < p.2 := by omega
    have dk2 : (k : Int) < ws.length := by omega
    have dk3 : k < ws.length := by omega
    have e1 := seg_s ws hk1 dk3
    have s1 := seg_ok hw (p.1, k)
    have s2 : segS ws (p.1, k) = syS ((ws.take k).drop p.1) := rfl
    rw [s2] at s1
    have s3 := hw2.2 _ (getD_memA ws default dk3)
    unfold okWd at s3
    simp only [Bool.and_eq_true, inB_iff] at s3
    have r1 : R64 (syS ((ws.take k).drop p.1) + (ws.getD k default).sy) := by unfold R64; omega
    repeat (first | (with_reducible first | refine Ju.go ?_ | (refine Hd.go ?_; intro K Q hK hQ; simp only [dk, if_true, List.getD_cons_zero, nod_arr, nd_no, List.getD_cons_succ, nod_imm, ix_wd, dk2, Int.toNat_natCast, true_and, nod_cptr, e_fac, Nat.zero_add, lv_cons, List.length_nil, Nat.reduceAdd, Nat.reduceLeDiff, e_ldc, Try.underlying3, e_add, r1]; subst hK hQ) | refine Jr.go ?_) | refine sd ?_)
    rw [← e1]
    exact ⟨k + 1, ⟨by omega, hkl⟩, rfl, rfl, by omega⟩
   ·have dk : ¬ (k : Int) < p.2 := by omega
    obtain rfl : k = p.2 := by omega
    have s2 : segS ws p = syS ((ws.take p.2).drop p.1) := rfl
    have s1 := seg_ok hw p
    rw [← s2]
    by_cases h1 : r.k = 1
    ·rw [if_pos h1] at eA
     have r1 : R64 (segS ws p - r.b) := by unfold R64; omega
     have r2 : R64 (phV ws r (ps.take j) + max 0 (segS ws p - r.b)) := by rw [← eA]; unfold R64; omega
     repeat (first | (with_reducible first | refine Ju.go ?_ | (refine Hd.go ?_; intro K Q hK hQ; simp only [dk, if_false, List.getD_cons_succ, List.getD_cons_zero, nod_cptr, e_fac, Nat.zero_add, h1, lv_cons, List.length_nil, Nat.reduceAdd, Nat.reduceLeDiff, true_and, e_ldc, nod_imm, e_eql, decide_true, e_cond, if_true, Try.underlying3, e_sub, r1, e_max2, e_add, r2]; subst hK hQ) | refine Jr.go ?_) | refine sd ?_)
     exact ⟨j + 1, hlt, by rw [es, eA]; rfl, rfl, by omega⟩
    ·rw [if_neg h1] at eA
     have r1 : R64 (r.b - segS ws p) := by unfold R64; omega
     have r2 : R64 (phV ws r (ps.take j) + max 0 (r.b - segS ws p)) := by rw [← eA]; unfold R64; omega
     repeat (first | (with_reducible first | refine Ju.go ?_ | (refine Hd.go ?_; intro K Q hK hQ; simp only [dk, if_false, List.getD_cons_succ, List.getD_cons_zero, nod_cptr, e_fac, Nat.zero_add, lv_cons, List.length_nil, Nat.reduceAdd, Nat.reduceLeDiff, true_and, e_ldc, nod_imm, e_eql, h1, decide_false, e_cond, Bool.false_eq_true, Try.underlying3, e_sub, r1, e_max2, e_add, r2]; subst hK hQ) | refine Jr.go ?_) | refine sd ?_)
     exact ⟨j + 1, hlt, by rw [es, eA]; rfl, rfl, by omega⟩
  ·have d : ¬ (j : Int) < ps.length := by omega
   obtain rfl : j = ps.length := by omega
   rw [List.take_of_length_le (Nat.le_refl _)]
   repeat (first | (with_reducible first | refine Ju.go ?_ | (refine Hd.go ?_; intro K Q hK hQ; simp only [d, if_false]; subst hK hQ) | refine Jr.go ?_) | refine sd ?_)
   exact end1 (fzI _)
 ·have e0 : (decide (r.k = 1) || decide (r.k = 2)) = false := by rw [Bool.or_eq_false_iff, decide_eq_false_iff_not, decide_eq_false_iff_not]; omega
  have k1 : ¬ r.k = 1 := by omega
  have k2 : ¬ r.k = 2 := by omega
  have ev : vio ws b r = if r.k = 6 then max 0 ((cntN ws b (pkP r) b.length : Nat) - r.b) else (cntN ws b (pkP r) b.length : Nat) := by
   unfold vio pkP
   rw [if_neg k1, if_neg k2]
   by_cases h3 : r.k = 3
   ·rw [if_pos h3, if_pos h3, if_neg (by omega)]
   ·rw [if_neg h3, if_neg h3]
    by_cases h4 : r.k = 4
    ·rw [if_pos h4, if_pos h4, if_neg (by omega)]
    ·rw [if_neg h4, if_neg h4]
     by_cases h5 : r.k = 5
     ·rw [if_pos h5, if_pos h5, if_neg (by omega)]
     ·rw [if_neg h5, if_neg h5, if_pos (by omega)]
  rw [ev]
  repeat (first | (with_reducible first | refine Ju.go ?_ | (refine Hd.go ?_; intro K Q hK hQ; simp only [e0, Bool.false_eq_true, if_false]; subst hK hQ) | refine Jr.go ?_) | refine sd ?_)
  refine loop_of (fun i : Nat => i ≤ b.length) (fun i => [.arr (ws.map wdV) .no, ints b .no, .cptr (rkV r), I (cntN ws b (pkP r) i : Nat), I i]) (fun _ => H) (fun i => b.length - i) 0 (Nat.zero_le _) rfl rfl ?_
  intro i hi
  have hcl := cntN_le ws b (pkP r) i
  repeat (first | (with_reducible first | refine Ju.go ?_ | (refine Hd.go ?_; intro K Q hK hQ; simp only [List.getD_cons_succ, List.getD_cons_zero, nod_ints, nd_no, e_len, nod_imm, Try.underlying3, e_lss, e_cond, decide_eq_true_eq]; subst hK hQ) | refine Jr.go ?_) | refine sd ?_)
  by_cases hlt : i < b.length
  ·have d : (i : Int) < b.length := by omega
   have d2 : (i : Int) < ws.length := by omega
   have d3 : i < ws.length := by omega
   have r1 : R64 (((cntN ws b (pkP r) i : Nat) : Int) + 1) := by unfold R64; omega
   have es := cntN_s ws b (pkP r) i
   have eg : gpP ws b (pkP r) i = pkP r (ws.getD i default) (b.getD i 0) := rfl
   rw [eg] at es
   repeat (first | (with_reducible first | refine Ju.go ?_ | (refine Hd.go ?_; intro K Q hK hQ; simp only [d, if_true, List.getD_cons_succ, List.getD_cons_zero, nod_ints, nd_no, nod_imm, e_ix, Int.toNat_natCast, true_and, nod_cptr, e_ldc, e_fac, Nat.reduceAdd, lv_cons, List.length_nil, Nat.zero_add, Nat.reduceLeDiff, Try.underlying3, e_geq, e_eql, e_cond, decide_eq_true_eq]; subst hK hQ) | refine Jr.go ?_) | refine sd ?_)
   have hnd : decide (b.getD i 0 < r.l) = !decide (r.l ≤ b.getD i 0) := by rw [← decide_not, decide_eq_decide]; omega
   by_cases h3 : r.k = 3
   ·have ep : pkP r = cuP r := by unfold pkP; rw [if_pos h3]
    have ec : pkP r (ws.getD i default) (b.getD i 0) = (decide (r.l ≤ b.getD i 0) && decide ((ws.getD i default).gp < r.b)) := by
     rw [ep]
     first | rfl | (unfold cuP; rw [hnd])
    repeat (first | (with_reducible first | refine Ju.go ?_ | (refine Hd.go ?_; intro K Q hK hQ; simp only [h3, if_true, List.getD_cons_succ, List.getD_cons_zero, nod_imm, nod_arr, nd_no, nod_cptr, Try.underlying3, e_fac, Nat.reduceAdd, lv_cons, List.length_nil, Nat.zero_add, Nat.reduceLeDiff, e_ldc, true_and, ix_wd, d2, Int.toNat_natCast, e_lss, e_gT, j_tl, decide_eq_true_eq, j_and', j_side, j_one, e_cond]; subst hK hQ) | refine Jr.go ?_) | refine sd ?_)
    rw [← ec]
    cases hc : pkP r (ws.getD i default) (b.getD i 0)
    ·rw [hc, if_neg (by decide)] at es
     repeat (first | (with_reducible first | refine Ju.go ?_ | (refine Hd.go ?_; intro K Q hK hQ; simp only [Bool.false_eq_true, if_false, List.getD_cons_zero, List.getD_cons_succ, nod_imm, Try.underlying3, e_add]; subst hK hQ) | refine Jr.go ?_) | refine sd ?_)
     exact ⟨i + 1, hlt, by rw [es]; rfl, rfl, by omega⟩
    ·rw [hc, if_pos rfl] at es
     repeat (first | (with_reducible first | refine Ju.go ?_ | (refine Hd.go ?_; intro K Q hK hQ; simp only [if_true, List.getD_cons_succ, List.getD_cons_zero, nod_imm, Try.underlying3, e_add, r1, true_and]; subst hK hQ) | refine Jr.go ?_) | refine sd ?_)
     exact ⟨i + 1, hlt, by rw [es]; rfl, rfl, by omega⟩
   ·by_cases h4 : r.k = 4
    ·have ep : pkP r = miP r := by unfold pkP; rw [if_neg h3, if_pos h4]
     have ec : pkP r (ws.getD i default) (b.getD i 0) = (!decide (r.l ≤ b.getD i 0) && decide (r.b ≤ (ws.getD i default).gp)) := by
      rw [ep]
      first | rfl | (unfold miP; rw [hnd])
     repeat (first | (with_reducible first | refine Ju.go ?_ | (refine Hd.go ?_; intro K Q hK hQ; simp only [h4, Int.reduceEq, if_false, nod_imm, e_eql, decide_true, e_cond, if_true, List.getD_cons_succ, List.getD_cons_zero, e_not, nod_arr, nd_no, nod_cptr, Try.underlying3, e_fac, Nat.reduceAdd, lv_cons, List.length_nil, Nat.zero_add, Nat.reduceLeDiff, e_ldc, true_and, ix_wd, d2, Int.toNat_natCast, e_geq, e_gT, j_tl, Bool.not_eq_true', decide_eq_false_iff_not, j_and', j_side, j_one]; subst hK hQ) | refine Jr.go ?_) | refine sd ?_)
     rw [← ec]
     cases hc : pkP r (ws.getD i default) (b.getD i 0)
     ·rw [hc, if_neg (by decide)] at es
      repeat (first | (with_reducible first | refine Ju.go ?_ | (refine Hd.go ?_; intro K Q hK hQ; simp only [Bool.false_eq_true, if_false, List.getD_cons_zero, List.getD_cons_succ, nod_imm, Try.underlying3, e_add]; subst hK hQ) | refine Jr.go ?_) | refine sd ?_)
      exact ⟨i + 1, hlt, by rw [es]; rfl, rfl, by omega⟩
     ·rw [hc, if_pos rfl] at es
      repeat (first | (with_reducible first | refine Ju.go ?_ | (refine Hd.go ?_; intro K Q hK hQ; simp only [if_true, List.getD_cons_succ, List.getD_cons_zero, nod_imm, Try.underlying3, e_add, r1, true_and]; subst hK hQ) | refine Jr.go ?_) | refine sd ?_)
      exact ⟨i + 1, hlt, by rw [es]; rfl, rfl, by omega⟩
    ·by_cases h5 : r.k = 5
     ·have ep : pkP r = foP r := by unfold pkP; rw [if_neg h3, if_neg h4, if_pos h5]
      have ec : pkP r (ws.getD i default) (b.getD i 0) = (!decide (r.l ≤ b.getD i 0) && (ws.getD i default).fo) := by
       rw [ep]
       first | rfl | (unfold foP; rw [hnd])
      repeat (first | (with_reducible first | refine Ju.go ?_ | (refine Hd.go ?_; intro K Q hK hQ; simp only [h5, Int.reduceEq, if_false, nod_imm, e_eql, decide_false, e_cond, Bool.false_eq_true, decide_true, if_true, List.getD_cons_succ, List.getD_cons_zero, e_not, nod_arr, nd_no, ix_wd, d2, Int.toNat_natCast, nod_cptr, e_fac, Nat.reduceAdd, lv_cons, List.length_nil, Nat.zero_add, Nat.reduceLeDiff, e_ldc, true_and, e_gT, j_tl, Bool.not_eq_true', decide_eq_false_iff_not, j_and', j_side, j_one]; subst hK hQ) | refine Jr.go ?_) | refine sd ?_)
      rw [← ec]
      cases hc : pkP r (ws.getD i default) (b.getD i 0)
      ·rw [hc, if_neg (by decide)] at es
       repeat (first | (with_reducible first | refine Ju.go ?_ | (refine Hd.go ?_; intro K Q hK hQ; simp only [Bool.false_eq_true, if_false, List.getD_cons_zero, List.getD_cons_succ, nod_imm, Try.underlying3, e_add]; subst hK hQ) | refine Jr.go ?_) | refine sd ?_)
       exact ⟨i + 1, hlt, by rw [es]; rfl, rfl, by omega⟩
      ·rw [hc, if_pos rfl] at es
       repeat (first | (with_reducible first | refine Ju.go ?_ | (refine Hd.go ?_; intro K Q hK hQ; simp only [if_true, List.getD_cons_succ, List.getD_cons_zero, nod_imm, Try.underlying3, e_add, r1, true_and]; subst hK hQ) | refine Jr.go ?_) | refine sd ?_)
       exact ⟨i + 1, hlt, by rw [es]; rfl, rfl, by omega⟩
     ·have h6 : r.k = 6 := by omega
      have ep : pkP r = maP r := by unfold pkP; rw [if_neg h3, if_neg h4, if_neg h5]
      have ec : pkP r (ws.getD i default) (b.getD i 0) = decide (r.l ≤ b.getD i 0) := by
       rw [ep]; rfl
      by_cases hle : r.l ≤ b.getD i 0
      ·rw [ec, decide_eq_true hle, if_pos rfl] at es
       repeat (first | (with_reducible first | refine Ju.go ?_ | (refine Hd.go ?_; intro K Q hK hQ; simp only [h6, Int.reduceEq, if_false, nod_imm, e_eql, decide_false, e_cond, Bool.false_eq_true, decide_true, if_true, hle, List.getD_cons_succ, List.getD_cons_zero, Try.underlying3, e_add, r1, true_and]; subst hK hQ) | refine Jr.go ?_) | refine sd ?_)
       exact ⟨i + 1, hlt, by rw [es]; rfl, rfl, by omega⟩
      ·rw [ec, decide_eq_false hle, if_neg (by decide)] at es
       repeat (first | (with_reducible first | refine Ju.go ?_ | (refine Hd.go ?_; intro K Q hK hQ; simp only [h6, Int.reduceEq, if_false, nod_imm, e_eql, decide_false, e_cond, Bool.false_eq_true, decide_true, if_true, hle, List.getD_cons_succ, List.getD_cons_zero, Try.underlying3, e_add]; subst hK hQ) | refine Jr.go ?_) | refine sd ?_)
       exact ⟨i + 1, hlt, by rw [es]; rfl, rfl, by omega⟩
  ·have d : ¬ (i : Int) < b.length := by omega
   obtain rfl : i = b.length := by omega
   have r1 : R64 (((cntN ws b (pkP r) b.length : Nat) : Int) - r.b) := by unfold R64; omega
   by_cases h6 : r.k = 6
   ·rw [if_pos h6]
    repeat (first | (with_reducible first | refine Ju.go ?_ | (refine Hd.go ?_; intro K Q hK hQ; simp only [d, if_false, List.getD_cons_succ, List.getD_cons_zero, nod_cptr, e_fac, Nat.zero_add, h6, lv_cons, List.length_nil, Nat.reduceAdd, Nat.reduceLeDiff, true_and, e_ldc, nod_imm, e_eql, decide_true, e_cond, if_true, Try.underlying3, e_sub, r1, e_max2]; subst hK hQ) | refine Jr.go ?_) | refine sd ?_)
    exact end1 (fzI _)
   ·rw [if_neg h6]
    repeat (first | (with_reducible first | refine Ju.go ?_ | (refine Hd.go ?_; intro K Q hK hQ; simp only [d, if_false, List.getD_cons_succ, List.getD_cons_zero, nod_cptr, e_fac, Nat.zero_add, lv_cons, List.length_nil, Nat.reduceAdd, Nat.reduceLeDiff, true_and, e_ldc, nod_imm, e_eql, h6, decide_false, e_cond, Bool.false_eq_true]; subst hK hQ) | refine Jr.go ?_) | refine sd ?_)
    exact end1 (fzI _)
theorem vios_s (ws : List Wd) (b : List Int) (rs : List Rk) {i : Nat} (h : i < rs.length) : vios ws b (rs.take (i + 1)) = vios ws b (rs.take i) ++ [vio ws b (rs.getD i default)] := by
 unfold vios
 rw [take_snocA rs default h, List.map_append]; rfl
theorem okRs_p {rs : List Rk} (h : okRs rs = true) : rs.length ≤ 20 ∧ ∀ r, r ∈ rs → okRk r = true := by
 unfold okRs at h
 rw [Bool.and_eq_true, decide_eq_true_eq, List.all_eq_true] at h
 exact h
theorem okWs_p {ws : List Wd} (h : okWs ws = true) : ws.length ≤ 60 ∧ ∀ w, w ∈ ws → okWd w = true := by
 unfold okWs at h
 rw [Bool.and_eq_true, decide_eq_true_eq, List.all_eq_true] at h
 exact h
theorem c41 (ws : List Wd) (b : List Int) (rs : List Rk) (H : Hp) (hw : okWs ws = true) (hr : okRs rs = true) (hb : okBr b ws.length = true) : Ret Try.prog 41 [.arr (ws.map wdV) .no, .arr (rs.map rkV) .no, ints b .no] H (ints (vios ws b rs) .no) H := by
 obtain ⟨hrl, hrm⟩ := okRs_p hr
 refine mk41 _ _ _ rfl (Nat.le_refl _) (.inl rfl) ?_
 simp only [vc41, real]
 refine loop_of (fun q : Nat × Fl => q.1 ≤ rs.length ∧ q.2.ap = true ∧ ((q.2 = .full ∧ q.1 = 0) ∨ q.2 = .own)) (fun q => [.arr (ws.map wdV) .no, .arr (rs.map rkV) .no, ints b .no, ints (vios ws b (rs.take q.1)) q.2, I q.1]) (fun _ => H) (fun q => rs.length - q.1) (0, .full) ⟨Nat.zero_le _, rfl, .inl ⟨rfl, rfl⟩⟩ rfl rfl ?_
 rintro ⟨i, f⟩ ⟨hi, hap, hff⟩
 simp only at hi hap hff ⊢
 have hl := vios_len ws b (rs.take i)
 repeat (first | (with_reducible first | refine Ju.go ?_ | (refine Hd.go ?_; intro K Q hK hQ; simp only [List.getD_cons_succ, List.getD_cons_zero, nod_arr, nd_no, e_lenA, List.length_map, nod_imm, Try.underlying3, e_lss, e_cond, decide_eq_true_eq]; subst hK hQ) | refine Jr.go ?_) | refine sd ?_)
 by_cases hlt : i < rs.length
 ·have d : (i : Int) < rs.length := by omega
  have hl2 : (vios ws b (rs.take i)).length ≤ 20 := by rw [hl, List.length_take]; omega
  have es := vios_s ws b rs hlt
  repeat (first | (with_reducible first | refine Ju.go ?_ | (refine Hd.go ?_; intro K Q hK hQ; simp only [d, if_true, List.getD_cons_succ, List.getD_cons_zero, nod_arr, nd_no, nod_imm, ix_rk, Int.toNat_natCast, true_and, nod_cptr, e_ldcA, lv_cons, List.length_nil, Nat.zero_add, Nat.reduceAdd, nod_agg, List.map_cons, nodL_imm, List.map_nil, nod_ints]; subst hK hQ) | refine Jr.go ?_) | refine sd ?_)
  refine call_of (c74 ws b (rs.getD i default) H hw (hrm _ (getD_memA rs default hlt)) hb) ?_
  repeat (first | (with_reducible first | refine Ju.go ?_ | (refine Hd.go ?_; intro K Q hK hQ; simp only [nod_imm, bs1, List.getD_cons_succ, List.getD_cons_zero, nod_ints, nd_full, e_app, Try.underlying3, e_add]; subst hK hQ) | refine Jr.go ?_) | refine sd ?_)
  exact ⟨(i + 1, .own), ⟨hlt, rfl, .inr rfl⟩, by show [_, _, _, ints (vios ws b (rs.take (i + 1))) .own, _] = _; rw [es]; rfl, rfl, by show rs.length - (i + 1) < rs.length - i; omega⟩
 ·have d : ¬ (i : Int) < rs.length := by omega
  obtain rfl : i = rs.length := by omega
  repeat (first | (with_reducible first | refine Ju.go ?_ | (refine Hd.go ?_; intro K Q hK hQ; simp only [d, if_false]; subst hK hQ) | refine Jr.go ?_) | refine sd ?_)
  rw [List.take_of_length_le (Nat.le_refl _)]
  rcases hff with ⟨rfl, h⟩ | rfl
  ·rw [List.length_eq_zero_iff.1 h]
   exact end1 (.full [] (bel_ints _ [] .full))
  ·exact end1 (.keep _ (bel_ints _ _ _))
theorem lexL_irr : ∀ a : List Int, lexL a a = false
 | [] => rfl
 | a :: p => by unfold lexL; rw [if_pos rfl]; exact lexL_irr p
theorem lexL_asymm : ∀ a b : List Int, lexL a b = true → lexL b a = false
 | [], _, h => by cases h
 | _ :: _, [], h => by cases h
 | a :: p, b :: q, h => by
  unfold lexL at h ⊢
  by_cases e : a = b
  ·rw [if_pos e] at h
   rw [if_pos e.symm]
   exact lexL_asymm p q h
  ·rw [if_neg e, decide_eq_true_eq] at h
   rw [if_neg (Ne.symm e), decide_eq_false_iff_not]
   omega
theorem lexL_tri : ∀ a b : List Int, a.length = b.length → lexL a b = false → lexL b a = false → a = b
 | [], [], _, _, _ => rfl
 | [], _ :: _, h, _, _ => by simp at h
 | _ :: _, [], h, _, _ => by simp at h
 | a :: p, b :: q, h, h1, h2 => by
  unfold lexL at h1 h2
  by_cases e : a = b
  ·rw [if_pos e] at h1
   rw [if_pos e.symm] at h2
   rw [e, lexL_tri p q (by simpa using h) h1 h2]
  ·rw [if_neg e, decide_eq_false_iff_not] at h1
   rw [if_neg (Ne.symm e), decide_eq_false_iff_not] at h2
   omega
theorem lexL_trans : ∀ a b c : List Int, lexL a b = true → lexL b c = true → lexL a c = true
 | [], _, _, h, _ => by cases h
 | _ :: _, [], _, h, _ => by cases h
 | _ :: _, _ :: _, [], _, h => by cases h
 | a :: p, b :: q, c :: r, h1, h2 => by
  unfold lexL at h1 h2 ⊢
  by_cases e1 : a = b
  ·rw [if_pos e1] at h1
   by_cases e2 : b = c
   ·rw [if_pos e2] at h2
    rw [if_pos (e1.trans e2)]
    exact lexL_trans p q r h1 h2
   ·rw [if_neg e2] at h2
    rw [if_neg (by omega), e1]
    exact h2
  ·rw [if_neg e1, decide_eq_true_eq] at h1
   by_cases e2 : b = c
   ·rw [if_neg (by omega), decide_eq_true_eq]; omega
   ·rw [if_neg e2, decide_eq_true_eq] at h2
    rw [if_neg (by omega), decide_eq_true_eq]; omega
theorem lexL_le {a b c : List Int} (hl : a.length = b.length) (hm : b.length = c.length) (h1 : lexL b a = false) (h2 : lexL c b = false) : lexL c a = false := by
 cases h : lexL c a with
 | false => rfl
 | true =>
  exfalso
  cases h3 : lexL a b with
  | true =>
   have := lexL_trans _ _ _ h h3
   rw [this] at h2; cases h2
  | false =>
   have := lexL_tri a b hl h3 h1
   subst this
   rw [h] at h2; cases h2
theorem lexL_lt_le {a b c : List Int} (hm : b.length = c.length) (h1 : lexL a b = true) (h2 : lexL c b = false) : lexL a c = true := by
 cases h3 : lexL b c with
 | true => exact lexL_trans _ _ _ h1 h3
 | false =>
  have := lexL_tri b c hm h3 h2
  subst this
  exact h1
theorem lexL_add : ∀ c a b : List Int, c.length = a.length → a.length = b.length → lexL (addL c a) (addL c b) = lexL a b
 | [], [], [], _, _ => rfl
 | [], _ :: _, _, h, _ => by simp at h
 | _ :: _, [], _, h, _ => by simp at h
 | [], [], _ :: _, _, h => by simp at h
 | _ :: _, _ :: _, [], _, h => by simp at h
 | z :: c, x :: a, y :: b, h1, h2 => by
  show lexL ((z + x) :: addL c a) ((z + y) :: addL c b) = _
  unfold lexL
  by_cases e : x = y
  ·rw [if_pos e, if_pos (by omega)]
   exact lexL_add c a b (by simpa using h1) (by simpa using h2)
  ·rw [if_neg e, if_neg (by omega), decide_eq_decide]; omega
theorem addL_inj {c a b : List Int} (h1 : c.length = a.length) (h2 : a.length = b.length) (h : addL c a = addL c b) : a = b := by
 refine lexL_tri a b h2 ?_ ?_
 ·rw [← lexL_add c a b h1 h2, h, lexL_irr]
 ·rw [← lexL_add c b a (h1.trans h2) h2.symm, h, lexL_irr]
theorem chs_is (S : Sr) {c : Int → List Int} {n : Nat} (hc : ∀ i, 0 ≤ i → i ≤ 2 → (c i).length = n) : ∃ j : Int, 0 ≤ j ∧ j ≤ 2 ∧ chs S (c 0) (c 1) (c 2) = (c j, j) ∧ (∀ i, 0 ≤ i → i ≤ 2 → lexL (c i) (c j) = false) ∧ ∀ i, 0 ≤ i → i < j → lexL (c j) (c i) = true := by
 have l0 := hc 0 (by decide) (by decide)
 have l1 := hc 1 (by decide) (by decide)
 have l2 := hc 2 (by decide) (by decide)
 have three : ∀ {P : Int → Prop}, P 0 → P 1 → P 2 → ∀ i, 0 ≤ i → i ≤ 2 → P i := fun {P} p0 p1 p2 i h1 h2 => by
  have : i = 0 ∨ i = 1 ∨ i = 2 := by omega
  rcases this with rfl | rfl | rfl <;> assumption
 unfold chs
 dsimp only
 cases h10 : lexL (c 1) (c 0) with
 | true =>
  rw [if_pos rfl]
  have h01 := lexL_asymm _ _ h10
  cases h21 : lexL (c 2) (c 1) with
  | true =>
   rw [if_pos rfl]
   have h12 := lexL_asymm _ _ h21
   have h20 := lexL_trans _ _ _ h21 h10
   refine ⟨2, by decide, by decide, rfl, three (lexL_asymm _ _ h20) h12 (lexL_irr _), fun i a b => ?_⟩
   have : i = 0 ∨ i = 1 := by omega
   rcases this with rfl | rfl <;> assumption
  | false =>
   rw [if_neg (by decide)]
   refine ⟨1, by decide, by decide, rfl, three h01 (lexL_irr _) h21, fun i a b => ?_⟩
   obtain rfl : i = 0 := by omega
   exact h10
 | false =>
  have e0 : (if (false = true) then ((c 1, (1 : Int)) : List Int × Int) else (c 0, 0)) = (c 0, 0) := rfl
  rw [e0]
  cases h20 : lexL (c 2) (c 0) with
  | true =>
   rw [if_pos rfl]
   have h21 : lexL (c 2) (c 1) = true := lexL_lt_le (by omega) h20 h10
   refine ⟨2, by decide, by decide, rfl, three (lexL_asymm _ _ h20) (lexL_asymm _ _ h21) (lexL_irr _), fun i a b => ?_⟩
   have : i = 0 ∨ i = 1 := by omega
   rcases this with rfl | rfl <;> assumption
  | false =>
   rw [if_neg (by decide)]
   exact ⟨0, by decide, by decide, rfl, three (lexL_irr _) h10 h20, fun i a b => by omega⟩
def costB (S : Sr) : Stt → List Int → List Int
 | s, [] => S.rs.map (endT S s 2 s.g)
 | s, l :: t => addL (decL S s l) (costB S (nxt S s l) t)
theorem costB_len (S : Sr) : ∀ (t : List Int) (s : Stt), (costB S s t).length = S.rs.length
 | [], s => by show (S.rs.map _).length = _; simp
 | l :: t, s => by
  show (addL (decL S s l) (costB S (nxt S s l) t)).length = _
  rw [addL_len _ _ (by rw [decL_len, costB_len S t]), decL_len]
structure Opt (S : Sr) (k : Nat) (s : Stt) : Prop where
 e : costB S s (brk S k s) = (bestP S k s).1
 m : ∀ t : List Int, t.length = k → (∀ x, x ∈ t → 0 ≤ x ∧ x ≤ 2) → lexL (costB S s t) (bestP S k s).1 = false
 f : ∀ t : List Int, t.length = k → (∀ x, x ∈ t → 0 ≤ x ∧ x ≤ 2) → costB S s t = (bestP S k s).1 → lexL t (brk S k s) = false
theorem opt (S : Sr) : ∀ (k : Nat) (s : Stt), s.g + k + 1 = S.ws.length → Opt S k s
 | 0, s, _ => ⟨rfl, fun t ht _ => by rw [List.length_eq_zero_iff.1 ht]; exact lexL_irr _, fun t ht _ _ => by rw [List.length_eq_zero_iff.1 ht]; rfl⟩
 | k + 1, s, hg => by
  have hb : bst S s = bestP S (k + 1) s := by unfold bst; rw [show S.ws.length - 1 - s.g = k + 1 by omega]
  have hn : ∀ l, Opt S k (nxt S s l) := fun l => opt S k (nxt S s l) (by show s.g + 1 + k + 1 = _; omega)
  have hl : ∀ l, (decL S s l).length = (bestP S k (nxt S s l)).1.length := fun l => by rw [decL_len, bestP_is]
  obtain ⟨j, j0, j2, ej, hm, hf⟩ := chs_is S (c := fun l => addL (decL S s l) (bestP S k (nxt S s l)).1) (n := S.rs.length) fun i _ _ => by
   show (addL _ _).length = _
   rw [addL_len _ _ (hl i), decL_len]
  have ebP : bestP S (k + 1) s = (addL (decL S s j) (bestP S k (nxt S s j)).1, j) := ej
  have ebr : brk S (k + 1) s = j :: brk S k (nxt S s j) := by
   show (bst S s).2 :: brk S k (nxt S s (bst S s).2) = _
   rw [hb, ebP]
  rw [← ebP] at ej
  have hcl : ∀ i, (addL (decL S s i) (bestP S k (nxt S s i)).1).length = S.rs.length := fun i => by rw [addL_len _ _ (hl i), decL_len]
  have hge : ∀ (l : Int) (t : List Int), t.length = k → (∀ x, x ∈ t → 0 ≤ x ∧ x ≤ 2) → lexL (costB S s (l :: t)) (addL (decL S s l) (bestP S k (nxt S s l)).1) = false := fun l t ht hx => by
   show lexL (addL (decL S s l) (costB S (nxt S s l) t)) _ = false
   rw [lexL_add _ _ _ (by rw [decL_len, costB_len]) (by rw [costB_len, bestP_is])]
   exact (hn l).m t ht hx
  refine ⟨?_, fun t ht hx => ?_, fun t ht hx he => ?_⟩
  ·rw [ebr, ebP]
   show addL (decL S s j) (costB S (nxt S s j) _) = _
   rw [(hn j).e]
  ·cases t with
   | nil => cases ht
   | cons l t =>
    have ht' : t.length = k := by simpa using ht
    have hl2 := hx l (by simp)
    have h1 := hge l t ht' fun x h => hx x (List.mem_cons_of_mem _ h)
    have h2 := hm l hl2.1 hl2.2
    rw [ebP]
    exact lexL_le (b := addL (decL S s l) (bestP S k (nxt S s l)).1) (by rw [hcl, hcl]) (by rw [hcl, costB_len]) h2 h1
  ·cases t with
   | nil => cases ht
   | cons l t =>
    have ht' : t.length = k := by simpa using ht
    have hl2 := hx l (by simp)
    have hx' : ∀ x, x ∈ t → 0 ≤ x ∧ x ≤ 2 := fun x h => hx x (List.mem_cons_of_mem _ h)
    have h1 := hge l t ht' hx'
    rw [ebP] at he
    rw [he] at h1
    have h1' : lexL (addL (decL S s j) (bestP S k (nxt S s j)).1) (addL (decL S s l) (bestP S k (nxt S s l)).1) = false := h1
    have h2 : lexL (addL (decL S s l) (bestP S k (nxt S s l)).1) (addL (decL S s j) (bestP S k (nxt S s j)).1) = false := hm l hl2.1 hl2.2
    have hjl : j ≤ l := by
     by_cases hlt : l < j
     ·have : lexL (addL (decL S s j) (bestP S k (nxt S s j)).1) (addL (decL S s l) (bestP S k (nxt S s l)).1) = true := hf l hl2.1 hlt
      rw [this] at h1'; cases h1'
     ·omega
    rw [ebr]
    unfold lexL
    by_cases e : l = j
    ·subst e
     rw [if_pos rfl]
     refine (hn l).f t ht' hx' ?_
     have he' : addL (decL S s l) (costB S (nxt S s l) t) = addL (decL S s l) (bestP S k (nxt S s l)).1 := he
     exact addL_inj (by rw [decL_len, costB_len]) (by rw [costB_len, bestP_is]) he'
    ·rw [if_neg e, decide_eq_false_iff_not]; omega
def cnL (b : List Int) (l : Int) (g : Nat) : Nat := ((List.range g).filter fun i => decide (l ≤ b.getD i 0)).length
theorem cnL_s (b : List Int) (l : Int) (g : Nat) : cnL b l (g + 1) = if l ≤ b.getD g 0 then cnL b l g + 1 else cnL b l g := by
 unfold cnL
 rw [List.range_succ, List.filter_append, List.length_append]
 split
 ·rename_i h
  rw [List.filter_cons_of_pos (p := fun i => decide (l ≤ b.getD i 0)) (decide_eq_true h)]; rfl
 ·rename_i h
  rw [List.filter_cons_of_neg (p := fun i => decide (l ≤ b.getD i 0)) (by rw [decide_eq_false h]; decide)]; rfl
theorem cnL_ma (ws : List Wd) (b : List Int) (r : Rk) (g : Nat) : cntN ws b (maP r) g = cnL b r.l g := rfl
def vg (ws : List Wd) (b : List Int) (r : Rk) (g : Nat) : Int :=
 if r.k = 1 then lgS ws r.b (phs b r.l g)
 else if r.k = 2 then shS ws r.b (phs b r.l g)
 else if r.k = 3 then (cntN ws b (cuP r) g : Nat)
 else if r.k = 4 then (cntN ws b (miP r) g : Nat)
 else if r.k = 5 then (cntN ws b (foP r) g : Nat)
 else max 0 ((cntN ws b (maP r) g : Nat) - r.b)
structure SAt' (S : Sr) (b : List Int) (g : Nat) (s : Stt) : Prop where
 eg : s.g = g
 f1 : S.l1 = true → s.f1 = phF b 1 g
 f2 : S.l2 = true → s.f2 = phF b 2 g
 b1 : s.b1 = min ((cnL b 1 g : Nat) : Int) S.c1
 b2 : s.b2 = min ((cnL b 2 g : Nat) : Int) S.c2
structure Cov (S : Sr) (r : Rk) : Prop where
 l : r.k = 1 ∨ r.k = 2 → (r.l = 1 → S.l1 = true) ∧ (r.l = 2 → S.l2 = true)
 c : r.k = 6 → (r.l = 1 → r.b ≤ S.c1) ∧ (r.l = 2 → r.b ≤ S.c2)
theorem cut_in {b : List Int} {l : Int} {g : Nat} (h : g < b.length) : cutB b l g = decide (l ≤ b.getD g 0) := by
 unfold cutB
 rw [decide_eq_true h, Bool.true_and, ← decide_not, decide_eq_decide]; omega
theorem cut_out {b : List Int} {l : Int} {g : Nat} (h : ¬ g < b.length) : cutB b l g = true := by
 unfold cutB
 rw [decide_eq_false h]; rfl
theorem phF_s (b : List Int) (l : Int) (g : Nat) : phF b l (g + 1) = if cutB b l g = true then g + 1 else phF b l g := rfl
theorem phs_s (b : List Int) (l : Int) (g : Nat) : phs b l (g + 1) = if cutB b l g = true then phs b l g ++ [(phF b l g, g + 1)] else phs b l g := rfl
theorem SAt'.next {S : Sr} {b : List Int} {g : Nat} {s : Stt} (h : SAt' S b g s) (hg : g < b.length) (c1 : 0 ≤ S.c1) (c2 : 0 ≤ S.c2) : SAt' S b (g + 1) (nxt S s (b.getD g 0)) := by
 have hb1 := h.b1
 have hb2 := h.b2
 refine ⟨by show s.g + 1 = _; rw [h.eg], fun hl => ?_, fun hl => ?_, ?_, ?_⟩
 ·show (if S.l1 = true ∧ 1 ≤ b.getD g 0 then s.g + 1 else s.f1) = _
  rw [phF_s, cut_in hg, h.eg, h.f1 hl]
  by_cases h1 : 1 ≤ b.getD g 0
  ·rw [if_pos ⟨hl, h1⟩, if_pos (decide_eq_true h1)]
  ·rw [if_neg (fun h => h1 h.2), if_neg (by rw [decide_eq_false h1]; decide)]
 ·show (if S.l2 = true ∧ 2 ≤ b.getD g 0 then s.g + 1 else s.f2) = _
  rw [phF_s, cut_in hg, h.eg, h.f2 hl]
  by_cases h1 : 2 ≤ b.getD g 0
  ·rw [if_pos ⟨hl, h1⟩, if_pos (decide_eq_true h1)]
  ·rw [if_neg (fun h => h1 h.2), if_neg (by rw [decide_eq_false h1]; decide)]
 ·show (if 1 ≤ b.getD g 0 then min (s.b1 + 1) S.c1 else s.b1) = _
  rw [cnL_s]
  split <;> omega
 ·show (if 2 ≤ b.getD g 0 then min (s.b2 + 1) S.c2 else s.b2) = _
  rw [cnL_s]
  split <;> omega
theorem SAt'.zero (S : Sr) (b : List Int) (c1 : 0 ≤ S.c1) (c2 : 0 ≤ S.c2) : SAt' S b 0 s0 :=
 ⟨rfl, fun _ => rfl, fun _ => rfl, by show (0 : Int) = min ((0 : Nat) : Int) S.c1; omega, by show (0 : Int) = min ((0 : Nat) : Int) S.c2; omega⟩
theorem endT_ph {S : Sr} {b : List Int} {g : Nat} {s : Stt} {r : Rk} (h : SAt' S b g s) (hc : Cov S r) (hr : okRk r = true) (hk : r.k = 1 ∨ r.k = 2) (lv : Int) :
    endT S s lv s.g r = if lv < r.l then 0 else lnP r (segS S.ws (phF b r.l g, g + 1)) := by
  have hr' := okRk_p hr
  have hf : frL s r.l = phF b r.l g := by
    unfold frL
    obtain ⟨a1, a2⟩ := hc.l hk
    rcases hr'.2.1 with hl | hl
    · rw [if_pos hl, h.f1 (a1 hl), hl]
    · rw [if_neg (by omega), h.f2 (a2 hl), hl]
  unfold endT
  rw [hf, h.eg]
  by_cases h1 : lv < r.l
  · rw [if_pos (.inl h1), if_pos h1]
  · rw [if_neg (by omega), if_neg h1]; rfl
theorem endT_no {S : Sr} {s : Stt} {r : Rk} (hk : ¬ (r.k = 1 ∨ r.k = 2)) (lv : Int) (n : Nat) : endT S s lv n r = 0 := by
 unfold endT
 rw [if_pos (.inr (by omega))]
theorem vg_s {S : Sr} {b : List Int} {g : Nat} {s : Stt} {r : Rk} (h : SAt' S b g s) (hc : Cov S r) (hr : okRk r = true) (hg : g < b.length) :
    vg S.ws b r (g + 1) = vg S.ws b r g + ((if isP S s (b.getD g 0) r = true then 1 else 0) + endT S s (b.getD g 0) s.g r) := by
  have hr' := okRk_p hr
  by_cases hk : r.k = 1 ∨ r.k = 2
  · have hi : isP S s (b.getD g 0) r = false := by
      unfold isP
      rw [if_neg (by omega), if_neg (by omega), if_neg (by omega), if_neg (by omega)]
    rw [hi, if_neg (by decide), endT_ph h hc hr hk]
    unfold vg lnP
    rw [phs_s, cut_in hg]
    by_cases h1 : r.k = 1
    · rw [if_pos h1, if_pos h1, if_pos h1]
      by_cases hl : r.l ≤ b.getD g 0
      · rw [if_pos (decide_eq_true hl), if_neg (by omega), lgS_snoc]; omega
      · rw [if_neg (by rw [decide_eq_false hl]; decide), if_pos (by omega)]; omega
    · have h2 : r.k = 2 := by omega
      rw [if_neg h1, if_neg h1, if_neg h1, if_pos h2, if_pos h2]
      by_cases hl : r.l ≤ b.getD g 0
      · rw [if_pos (decide_eq_true hl), if_neg (by omega), shS_snoc]; omega
      · rw [if_neg (by rw [decide_eq_false hl]; decide), if_pos (by omega)]; omega
  · rw [endT_no hk, Int.add_zero]
    have k1 : ¬ r.k = 1 := by omega
    have k2 : ¬ r.k = 2 := by omega
    have gen : ∀ p : Wd → Int → Bool, isP S s (b.getD g 0) r = p (S.ws.getD g default) (b.getD g 0) → ((cntN S.ws b p (g + 1) : Nat) : Int) = (cntN S.ws b p g : Nat) + (if isP S s (b.getD g 0) r = true then 1 else 0) := fun p e => by
      rw [cntN_s, e]
      show (((if p (S.ws.getD g default) (b.getD g 0) = true then _ else _ : Nat)) : Int) = _
      split <;> omega
    unfold vg
    rw [if_neg k1, if_neg k1, if_neg k2, if_neg k2]
    by_cases h3 : r.k = 3
    · rw [if_pos h3, if_pos h3]
      exact gen _ (by unfold isP cuP; rw [if_pos h3, h.eg])
    · rw [if_neg h3, if_neg h3]
      by_cases h4 : r.k = 4
      · rw [if_pos h4, if_pos h4]
        exact gen _ (by unfold isP miP; rw [if_neg h3, if_pos h4, h.eg])
      · rw [if_neg h4, if_neg h4]
        by_cases h5 : r.k = 5
        · rw [if_pos h5, if_pos h5]
          exact gen _ (by unfold isP foP; rw [if_neg h3, if_neg h4, if_pos h5, h.eg])
        · rw [if_neg h5, if_neg h5]
          have h6 : r.k = 6 := by omega
          obtain ⟨q1, q2⟩ := hc.c h6
          have hbk : (r.b ≤ bkL s r.l) ↔ r.b ≤ ((cnL b r.l g : Nat) : Int) := by
            have hb1 := h.b1
            have hb2 := h.b2
            unfold bkL
            rcases hr'.2.1 with hl | hl
            · rw [if_pos hl]
              have := q1 hl
              rw [hl]
              omega
            · rw [if_neg (by omega)]
              have := q2 hl
              rw [hl]
              omega
          have hi : isP S s (b.getD g 0) r = (decide (r.l ≤ b.getD g 0) && decide (r.b ≤ ((cnL b r.l g : Nat) : Int))) := by
            unfold isP
            rw [if_neg h3, if_neg h4, if_neg h5, if_pos h6]
            congr 1
            rw [decide_eq_decide]; exact hbk
          rw [hi, cnL_ma, cnL_ma, cnL_s]
          by_cases hl : r.l ≤ b.getD g 0
          · rw [if_pos hl, decide_eq_true hl, Bool.true_and]
            by_cases hq : r.b ≤ ((cnL b r.l g : Nat) : Int)
            · rw [decide_eq_true hq, if_pos rfl]; omega
            · rw [decide_eq_false hq, if_neg (by decide)]; omega
          · rw [if_neg hl, decide_eq_false hl, Bool.false_and, if_neg (by decide)]; omega
theorem vg_end {S : Sr} {b : List Int} {s : Stt} {r : Rk} (h : SAt' S b b.length s) (hc : Cov S r) (hr : okRk r = true) (hn : S.ws.length = b.length + 1) :
    vio S.ws b r = vg S.ws b r b.length + endT S s 2 s.g r := by
  have hr' := okRk_p hr
  by_cases hk : r.k = 1 ∨ r.k = 2
  · rw [endT_ph h hc hr hk, if_neg (by omega)]
    unfold vio vg lnP
    rw [hn, phs_s, cut_out (by omega), if_pos rfl]
    by_cases h1 : r.k = 1
    · rw [if_pos h1, if_pos h1, if_pos h1, lgS_snoc]
    · have h2 : r.k = 2 := by omega
      rw [if_neg h1, if_neg h1, if_neg h1, if_pos h2, if_pos h2, shS_snoc]
  · rw [endT_no hk, Int.add_zero]
    have k1 : ¬ r.k = 1 := by omega
    have k2 : ¬ r.k = 2 := by omega
    unfold vio vg
    rw [if_neg k1, if_neg k1, if_neg k2, if_neg k2]
theorem vg_0 (ws : List Wd) (b : List Int) {r : Rk} (hr : okRk r = true) : vg ws b r 0 = 0 := by
 have hr' := okRk_p hr
 unfold vg
 split
 ·rfl
 ·split
  ·rfl
  ·split
   ·rfl
   ·split
    ·rfl
    ·split
     ·rfl
     ·show max 0 (((0 : Nat) : Int) - r.b) = 0
      omega
theorem map_get {f : Rk → Int} {rs : List Rk} {i : Nat} (h : i < rs.length) : (rs.map f).getD i 0 = f (rs.getD i default) := by
 rw [List.getD_eq_getElem?_getD, List.getElem?_map, List.getElem?_eq_getElem h, List.getD_eq_getElem?_getD, List.getElem?_eq_getElem h]; rfl
theorem cost_get {S : Sr} {b : List Int} {i : Nat} (hi : i < S.rs.length) (hc : Cov S (S.rs.getD i default)) (hr : okRk (S.rs.getD i default) = true) (hn : S.ws.length = b.length + 1) (c1 : 0 ≤ S.c1) (c2 : 0 ≤ S.c2) :
    ∀ (t : List Int) (g : Nat) (s : Stt), g ≤ b.length → SAt' S b g s → b.drop g = t → vg S.ws b (S.rs.getD i default) g + (costB S s t).getD i 0 = vio S.ws b (S.rs.getD i default)
  | [], g, s, hg, h, ht => by
    have : g = b.length := by
      have := congrArg List.length ht
      rw [List.length_drop] at this
      simp at this
      omega
    subst this
    rw [vg_end h hc hr hn]
    congr 1
    exact map_get hi
  | l :: t, g, s, hg, h, ht => by
    have hlt : g < b.length := by
      have := congrArg List.length ht
      rw [List.length_drop] at this
      simp at this
      omega
    have e1 : b.getD g 0 = l := by
      rw [List.drop_eq_getElem_cons hlt] at ht
      injection ht with a1 a2
      rw [List.getD_eq_getElem?_getD, List.getElem?_eq_getElem hlt]; exact a1
    have e2 : b.drop (g + 1) = t := by
      rw [List.drop_eq_getElem_cons hlt] at ht
      injection ht
    subst e1
    have hs := h.next hlt c1 c2
    have ih := cost_get hi hc hr hn c1 c2 t (g + 1) _ hlt hs e2
    have hv := vg_s h hc hr hlt
    show _ + (addL (decL S s (b.getD g 0)) (costB S (nxt S s (b.getD g 0)) t)).getD i 0 = _
    rw [addL_get (by rw [decL_len, costB_len]) (by rw [decL_len]; exact hi)]
    have hd : (decL S s (b.getD g 0)).getD i 0 = (if isP S s (b.getD g 0) (S.rs.getD i default) = true then 1 else 0) + endT S s (b.getD g 0) s.g (S.rs.getD i default) := by
      unfold decL
      rw [addL_get (by simp) (by simp; exact hi), map_get hi, map_get hi]
    rw [hd]
    omega
theorem cost_vios {S : Sr} {b : List Int} (hc : ∀ r, r ∈ S.rs → Cov S r) (hr : ∀ r, r ∈ S.rs → okRk r = true) (hn : S.ws.length = b.length + 1) (c1 : 0 ≤ S.c1) (c2 : 0 ≤ S.c2) : costB S s0 b = vios S.ws b S.rs := by
 refine ext_getD (by rw [costB_len, vios_len]) fun i hi => ?_
 rw [costB_len] at hi
 have hm := getD_memA S.rs default hi
 have := cost_get hi (hc _ hm) (hr _ hm) hn c1 c2 b 0 s0 (Nat.zero_le _) (SAt'.zero S b c1 c2) rfl
 rw [vg_0 _ _ (hr _ hm), Int.zero_add] at this
 rw [this, vios_get _ _ _ hi]
theorem Cov.mono {S : Sr} {r r' : Rk} (h : Cov S r) : Cov (srS S r') r := by
 obtain ⟨h1, h2⟩ := h
 unfold srS
 split
 ·split
  ·exact ⟨fun k => ⟨fun _ => rfl, (h1 k).2⟩, h2⟩
  ·exact ⟨fun k => ⟨(h1 k).1, fun _ => rfl⟩, h2⟩
 ·split
  ·split
   ·exact ⟨h1, fun k => ⟨fun l => by have := (h2 k).1 l; show r.b ≤ max S.c1 r'.b; omega, (h2 k).2⟩⟩
   ·exact ⟨h1, fun k => ⟨(h2 k).1, fun l => by have := (h2 k).2 l; show r.b ≤ max S.c2 r'.b; omega⟩⟩
  ·exact ⟨h1, h2⟩
theorem Cov.self (S : Sr) {r : Rk} (hr : okRk r = true) : Cov (srS S r) r := by
 have hr' := okRk_p hr
 unfold srS
 by_cases hk : r.k = 1 ∨ r.k = 2
 ·rw [if_pos hk]
  by_cases hl : r.l = 1
  ·rw [if_pos hl]
   exact ⟨fun _ => ⟨fun _ => rfl, fun h => by omega⟩, fun h => by omega⟩
  ·rw [if_neg hl]
   exact ⟨fun _ => ⟨fun h => absurd h hl, fun _ => rfl⟩, fun h => by omega⟩
 ·rw [if_neg hk]
  refine ⟨fun h => absurd h hk, fun h6 => ?_⟩
  rw [if_pos h6]
  by_cases hl : r.l = 1
  ·rw [if_pos hl]
   exact ⟨fun _ => by show r.b ≤ max S.c1 r.b; omega, fun h => by omega⟩
  ·rw [if_neg hl]
   exact ⟨fun h => absurd h hl, fun _ => by show r.b ≤ max S.c2 r.b; omega⟩
theorem cov_srI {ws : List Wd} {rs : List Rk} (hr : okRs rs = true) : ∀ i, i ≤ rs.length → ∀ j, j < i → Cov (srI ws rs i) (rs.getD j default)
 | 0, _, j, h => absurd h (Nat.not_lt_zero j)
 | i + 1, hi, j, h => by
  rw [srI_succ ws rs (by omega)]
  by_cases e : j = i
  ·subst e
   exact Cov.self _ ((okRs_p hr).2 _ (getD_memA rs default (by omega)))
  ·exact (cov_srI hr i (by omega) j (by omega)).mono
theorem cov_srF {ws : List Wd} {rs : List Rk} (hr : okRs rs = true) : ∀ r, r ∈ rs → Cov (srF ws rs) r := fun r h => by
 obtain ⟨j, hj, rfl⟩ := List.mem_iff_getElem.1 h
 have := cov_srI (ws := ws) hr rs.length (Nat.le_refl _) j hj
 rw [List.getD_eq_getElem?_getD, List.getElem?_eq_getElem hj] at this
 exact this
theorem brk_rng (S : Sr) : ∀ (k : Nat) (s : Stt) (x : Int), x ∈ brk S k s → 0 ≤ x ∧ x ≤ 2
 | 0, _, x, h => by cases h
 | k + 1, s, x, h => by
  rcases List.mem_cons.1 h with rfl | h
  ·exact bst_lv S s
  ·exact brk_rng S k _ x h
def bB (ws : List Wd) (rs : List Rk) : List Int := brk (srF ws rs) (ws.length - 1) s0
theorem okBr_iff {b : List Int} {n : Nat} : okBr b n = true ↔ b.length = n - 1 ∧ ∀ x, x ∈ b → 0 ≤ x ∧ x ≤ 2 := by
 unfold okBr
 rw [Bool.and_eq_true, decide_eq_true_eq, List.all_eq_true]
 exact ⟨fun h => ⟨h.1, fun x hx => inB_iff.1 (h.2 x hx)⟩, fun h => ⟨h.1, fun x hx => inB_iff.2 (h.2 x hx)⟩⟩
theorem bB_ok (ws : List Wd) (rs : List Rk) : okBr (bB ws rs) ws.length = true := okBr_iff.2 ⟨brk_len _ _ _, brk_rng _ _ _⟩
structure Best (ws : List Wd) (rs : List Rk) : Prop where
 e : ws ≠ [] → (bst (srF ws rs) s0).1 = vios ws (bB ws rs) rs
 m : ∀ b, okBr b ws.length = true → lexL (vios ws b rs) (vios ws (bB ws rs) rs) = false
 f : ∀ b, okBr b ws.length = true → vios ws b rs = vios ws (bB ws rs) rs → lexL b (bB ws rs) = false
theorem best (ws : List Wd) (rs : List Rk) (hw : okWs ws = true) (hr : okRs rs = true) : Best ws rs := by
 by_cases hne : ws = []
 ·subst hne
  have h0 : ∀ b, okBr b ([] : List Wd).length = true → b = [] := fun b hb => List.length_eq_zero_iff.1 (okBr_iff.1 hb).1
  have hb0 : bB [] rs = [] := rfl
  exact ⟨fun h => absurd rfl h, fun b hb => by rw [h0 b hb, hb0]; exact lexL_irr _, fun b hb _ => by rw [h0 b hb]; rfl⟩
 ·have hpos := List.length_pos_iff.2 hne
  obtain ⟨sok, sw, sr⟩ := srI_ok hw hr rs.length (Nat.le_refl _)
  have eS : srI ws rs rs.length = srF ws rs := rfl
  rw [eS] at sok sw sr
  have hcost : ∀ b, okBr b ws.length = true → costB (srF ws rs) s0 b = vios ws b rs := fun b hb => by
   have := cost_vios (S := srF ws rs) (b := b) (by rw [sr]; exact cov_srF hr) sok.r (by rw [sw, (okBr_iff.1 hb).1]; omega) sok.c1.1 sok.c2.1
   rw [sw, sr] at this
   exact this
  have ho := opt (srF ws rs) (ws.length - 1) s0 (by show 0 + _ + 1 = _; rw [sw]; omega)
  have eb : (bst (srF ws rs) s0).1 = (bestP (srF ws rs) (ws.length - 1) s0).1 := by
   unfold bst
   rw [sw]; rfl
  have he : (bestP (srF ws rs) (ws.length - 1) s0).1 = vios ws (bB ws rs) rs := by
   rw [← hcost _ (bB_ok ws rs)]
   exact ho.e.symm
  refine ⟨fun _ => eb.trans he, fun b hb => ?_, fun b hb h => ?_⟩
  ·obtain ⟨b1, b2⟩ := okBr_iff.1 hb
   have := ho.m b b1 b2
   rwa [hcost b hb, he] at this
  ·obtain ⟨b1, b2⟩ := okBr_iff.1 hb
   exact ho.f b b1 b2 (by rw [hcost b hb, he]; exact h)
def brV (ws : List Wd) (rs : List Rk) : V := if (okWs ws && okRs rs) = true then .tup [ints (bB ws rs) .no, ints (vios ws (bB ws rs) rs) .no, I 0] else .tup [ints [] .no, ints [] .no, I 2]
theorem brV_nd (ws : List Wd) (rs : List Rk) : (brV ws rs).Nd := by unfold brV; split <;> rfl
theorem wk_se {σ : Sg} {w : World} {x : Value} (h : Rel σ w (.agg [.arr [] .full, .arr [] .full]) x) : Rel σ w (seV [] []) x := by
 cases h with
 | agg cs ys hl h0 h1 =>
  refine .agg _ ys hl h0 fun i c hi => ?_
  match i with
  | 0 => cases hi; exact Rel.wkF (h1 0 _ rfl)
  | 1 => cases hi; exact Rel.wkF (h1 1 _ rfl)
  | i + 2 => cases hi
theorem c26' (ws : List Wd) (rs : List Rk) (H : Hp) (hwl : ws.length ≤ 9223372036854775807) (hrl : rs.length ≤ 9223372036854775807) : Ret Try.prog 26 [.arr (ws.map wdV) .no, .arr (rs.map rkV) .no] H (brV ws rs) H := by
 by_cases hne : ws = []
 ·have h0 : (ws.length : Int) = 0 := by rw [hne]; rfl
  refine mk26 _ _ (brV_nd ws rs) (Nat.le_refl _) (.inl rfl) ?_
  simp only [vc26, real]
  repeat (first | (with_reducible first | refine Ju.go ?_ | (refine Hd.go ?_; intro K Q hK hQ; simp only [nod_arr, nd_no]; subst hK hQ) | refine Jr.go ?_) | refine sd ?_)
  refine call_of (c59 ws _ hwl) ?_
  repeat (first | (with_reducible first | refine Ju.go ?_ | (refine Hd.go ?_; intro K Q hK hQ; simp only [nod_imm, e_not, nod_arr, nd_no, e_gF]; subst hK hQ) | refine Jr.go ?_) | refine sd ?_)
  refine jo_n (c60 rs _ hrl) ?_
  rw [← Bool.not_and]
  cases hok : (okWs ws && okRs rs)
  ·have em : brV ws rs = .tup [ints [] .no, ints [] .no, I 2] := by unfold brV; rw [hok]; rfl
   rw [em]
   repeat (first | (with_reducible first | refine Ju.go ?_ | (refine Hd.go ?_; intro K Q hK hQ; simp only [Bool.not_false, List.getD_cons_succ, List.getD_cons_zero, nod_imm, e_cond, if_true]; subst hK hQ) | refine Jr.go ?_) | refine sd ?_)
   exact end3 rfl rfl rfl (.full [] (bel_ints _ [] .full)) (.full [] (bel_ints _ [] .full)) (fzI _)
  ·have em : brV ws rs = .tup [ints [] .no, ints (vios [] [] rs) .no, I 0] := by unfold brV; rw [hok, hne]; rfl
   rw [em]
   rw [Bool.and_eq_true] at hok
   repeat (first | (with_reducible first | refine Ju.go ?_ | (refine Hd.go ?_; intro K Q hK hQ; simp only [Bool.not_true, List.getD_cons_succ, List.getD_cons_zero, nod_imm, e_cond, Bool.false_eq_true, if_false, nod_arr, nd_no, e_lenA, List.length_map, h0, Try.underlying3, e_eql, decide_true, if_true, e_bd0, nod_agg, List.map_cons, nodL_arr, nd_full, List.map_nil]; subst hK hQ) | refine Jr.go ?_) | refine sd ?_)
   have c := c61 [] [] rs H rfl hok.2 rfl
   refine call_of (Ret.weakR c rfl (fun σ w i x h => ?_) (fun i => ?_) (fun a ha => ?_)) ?_
   ·match i with
    | 0 => exact wk_se h
    | 1 => exact h
    | i + 2 => exact .junk _
   ·match i with
    | 0 => rfl
    | 1 => rfl
    | i + 2 => rfl
   ·simp only [List.mem_cons, List.not_mem_nil, or_false] at ha
    rcases ha with rfl | rfl <;> rfl
   ·repeat (first | (with_reducible first | refine Ju.go ?_ | (refine Hd.go ?_; intro K Q hK hQ; simp only []; subst hK hQ) | refine Jr.go ?_) | refine sd ?_)
    exact end3 rfl rfl rfl (.full [] (bel_ints _ [] .full)) (.keep _ (bel_ints _ _ _)) (fzI _)
 ·have c := c26 ws rs H hwl hrl hne
  unfold brV
  cases hok : (okWs ws && okRs rs)
  ·rw [hok] at c
   exact c
  ·rw [hok] at c
   rw [Bool.and_eq_true] at hok
   rw [(best ws rs hok.1 hok.2).e hne] at c
   exact c
def ext3 (x : List Int) : List (List Int) := [x ++ [0], x ++ [1], x ++ [2]]
def allB : Nat → List (List Int)
 | 0 => [[]]
 | k + 1 => (allB k).flatMap ext3
theorem allB_ok : ∀ (k : Nat) (b : List Int), b ∈ allB k ↔ b.length = k ∧ ∀ x, x ∈ b → 0 ≤ x ∧ x ≤ 2
 | 0, b => by
  show b ∈ [[]] ↔ _
  rw [List.mem_singleton]
  constructor
  ·rintro rfl
   exact ⟨rfl, fun x h => by cases h⟩
  ·exact fun h => List.length_eq_zero_iff.1 h.1
 | k + 1, b => by
  show b ∈ (allB k).flatMap ext3 ↔ _
  rw [List.mem_flatMap]
  constructor
  ·rintro ⟨a, ha, hb⟩
   obtain ⟨h1, h2⟩ := (allB_ok k a).1 ha
   have h3 : ∃ y : Int, 0 ≤ y ∧ y ≤ 2 ∧ b = a ++ [y] := by
    unfold ext3 at hb
    simp only [List.mem_cons, List.not_mem_nil, or_false] at hb
    rcases hb with h | h | h
    ·exact ⟨0, by decide, by decide, h⟩
    ·exact ⟨1, by decide, by decide, h⟩
    ·exact ⟨2, by decide, by decide, h⟩
   obtain ⟨y, y0, y2, rfl⟩ := h3
   refine ⟨by rw [List.length_append, h1]; rfl, fun x hx => ?_⟩
   rcases List.mem_append.1 hx with hx | hx
   ·exact h2 x hx
   ·rw [List.mem_singleton.1 hx]; exact ⟨y0, y2⟩
  ·rintro ⟨h1, h2⟩
   have hne : b ≠ [] := fun h => by rw [h] at h1; cases h1
   have hl := h2 (b.getLast hne) (List.getLast_mem hne)
   refine ⟨b.dropLast, (allB_ok k _).2 ⟨by rw [List.length_dropLast]; omega, fun x hx => h2 x ((List.dropLast_subset b) hx)⟩, ?_⟩
   have e := List.dropLast_concat_getLast hne
   generalize b.getLast hne = y at *
   have hy : y = 0 ∨ y = 1 ∨ y = 2 := by omega
   unfold ext3
   rcases hy with rfl | rfl | rfl
   ·rw [e]; exact List.mem_cons_self
   ·rw [e]; exact List.mem_cons_of_mem _ List.mem_cons_self
   ·rw [e]; exact List.mem_cons_of_mem _ (List.mem_cons_of_mem _ List.mem_cons_self)
theorem ext3_len (x : List Int) : (ext3 x).length = 3 := rfl
theorem allB_len : ∀ k, (allB k).length = 3 ^ k
 | 0 => rfl
 | k + 1 => by
  show ((allB k).flatMap ext3).length = _
  have h : ∀ l : List (List Int), (l.flatMap ext3).length = 3 * l.length := fun l => by
   induction l with
   | nil => rfl
   | cons a l ih => rw [List.flatMap_cons, List.length_append, ih, ext3_len, List.length_cons]; omega
  rw [h, allB_len k, Nat.pow_succ]; omega
theorem lexL_app : ∀ (a b : List Int) (x y : List Int), lexL a b = true → lexL (a ++ x) (b ++ y) = true
 | [], _, _, _, h => by cases h
 | _ :: _, [], _, _, h => by cases h
 | p :: a, q :: b, x, y, h => by
  rw [List.cons_append, List.cons_append]
  unfold lexL at h ⊢
  by_cases e : p = q
  ·rw [if_pos e] at h ⊢
   exact lexL_app a b x y h
  ·rw [if_neg e] at h ⊢
   exact h
theorem lexL_pre : ∀ (a : List Int) (x y : Int), lexL (a ++ [x]) (a ++ [y]) = decide (x < y)
 | [], x, y => by
  show lexL [x] [y] = _
  unfold lexL
  by_cases e : x = y
  ·rw [if_pos e, decide_eq_false (by omega)]; rfl
  ·rw [if_neg e]
 | p :: a, x, y => by
  rw [List.cons_append, List.cons_append]
  show (if p = p then lexL (a ++ [x]) (a ++ [y]) else decide (p < p)) = _
  rw [if_pos rfl]
  exact lexL_pre a x y
theorem allB_sorted : ∀ k, (allB k).Pairwise fun a b => lexL a b = true
 | 0 => List.pairwise_singleton _ _
 | k + 1 => by
  show ((allB k).flatMap ext3).Pairwise _
  rw [List.pairwise_flatMap]
  refine ⟨fun a _ => ?_, (allB_sorted k).imp fun {a b} h x hx y hy => ?_⟩
  ·unfold ext3
   simp only [List.pairwise_cons, List.mem_cons, List.not_mem_nil, or_false, forall_eq_or_imp, forall_eq, lexL_pre]
   simp
  ·unfold ext3 at hx hy
   simp only [List.mem_cons, List.not_mem_nil, or_false] at hx hy
   rcases hx with rfl | rfl | rfl <;> rcases hy with rfl | rfl | rfl <;> exact lexL_app _ _ _ _ h
theorem allB_lt {k i j : Nat} (h : i < j) (hj : j < (allB k).length) : lexL ((allB k).getD i []) ((allB k).getD j []) = true := by
 have := List.pairwise_iff_getElem.1 (allB_sorted k) i j (by omega) hj h
 rwa [List.getD_eq_getElem?_getD, List.getD_eq_getElem?_getD, List.getElem?_eq_getElem hj, List.getElem?_eq_getElem (show i < _ by omega)]
structure Fst (k : Nat) (f : List Int → List Int) (i : Nat) (b : List Int) : Prop where
 ix : ∃ j, j < i ∧ b = (allB k).getD j []
 m : ∀ j, j < i → lexL (f ((allB k).getD j [])) (f b) = false
 e : ∀ j, j < i → f ((allB k).getD j []) = f b → lexL ((allB k).getD j []) b = false
theorem Fst.one (k : Nat) (f : List Int → List Int) : Fst k f 1 ((allB k).getD 0 []) :=
  ⟨⟨0, by omega, rfl⟩, fun j h => by obtain rfl : j = 0 := by omega
                                     exact lexL_irr _, fun j h _ => by obtain rfl : j = 0 := by omega
                                                                       exact lexL_irr _⟩
theorem Fst.less {k n : Nat} {f : List Int → List Int} (hf : ∀ b, (f b).length = n) {i : Nat} {b : List Int} (h : Fst k f i b) (hl : lexL (f ((allB k).getD i [])) (f b) = true) : Fst k f (i + 1) ((allB k).getD i []) := by
 refine ⟨⟨i, by omega, rfl⟩, fun j hj => ?_, fun j hj he => ?_⟩
 ·by_cases e : j = i
  ·subst e; exact lexL_irr _
  ·cases h2 : lexL (f ((allB k).getD j [])) (f ((allB k).getD i [])) with
   | false => rfl
   | true =>
    have := h.m j (by omega)
    rw [lexL_trans _ _ _ h2 hl] at this; cases this
 ·by_cases e : j = i
  ·subst e; exact lexL_irr _
  ·have := h.m j (by omega)
   rw [he, hl] at this; cases this
theorem Fst.skip {k : Nat} {f : List Int → List Int} {i : Nat} (hi : i < (allB k).length) {b : List Int} (h : Fst k f i b) (hl : lexL (f ((allB k).getD i [])) (f b) = false) : Fst k f (i + 1) b := by
 obtain ⟨j0, h0, e0⟩ := h.ix
 refine ⟨⟨j0, by omega, e0⟩, fun j hj => ?_, fun j hj he => ?_⟩
 ·by_cases e : j = i
  ·subst e; exact hl
  ·exact h.m j (by omega)
 ·by_cases e : j = i
  ·subst e
   rw [e0]
   exact lexL_asymm _ _ (allB_lt h0 hi)
  ·exact h.e j (by omega) he
theorem Fst.isB {ws : List Wd} {rs : List Rk} (hw : okWs ws = true) (hr : okRs rs = true) {b : List Int} (h : Fst (ws.length - 1) (fun b => vios ws b rs) (allB (ws.length - 1)).length b) : b = bB ws rs := by
 obtain ⟨-, bm, bf⟩ := best ws rs hw hr
 have hbb := bB_ok ws rs
 obtain ⟨j0, hj0, e0⟩ := h.ix
 have hm : b ∈ allB (ws.length - 1) := by
  rw [e0, List.getD_eq_getElem?_getD, List.getElem?_eq_getElem hj0]
  exact List.getElem_mem hj0
 obtain ⟨b1, b2⟩ := (allB_ok _ _).1 hm
 have hb : okBr b ws.length = true := okBr_iff.2 ⟨b1, b2⟩
 obtain ⟨c1, c2⟩ := okBr_iff.1 hbb
 obtain ⟨j, hj, ej⟩ := List.mem_iff_getElem.1 ((allB_ok _ _).2 ⟨c1, c2⟩)
 have ej2 : (allB (ws.length - 1)).getD j [] = bB ws rs := by
  rw [List.getD_eq_getElem?_getD, List.getElem?_eq_getElem hj]; exact ej
 have m1 := h.m j hj
 have m2 := bm b hb
 have f1 := h.e j hj
 rw [ej2] at m1 f1
 have ev : vios ws b rs = vios ws (bB ws rs) rs := lexL_tri _ _ (by rw [vios_len, vios_len]) m2 m1
 exact lexL_tri _ _ (by rw [b1, c1]) (bf b hb ev) (f1 ev.symm)
theorem pow3 {k : Nat} (h : k ≤ 6) : 3 ^ k ≤ 729 := by
 have := Nat.pow_le_pow_right (n := 3) (by decide) h
 exact Nat.le_trans this (by decide)
theorem pow3_pos (k : Nat) : 0 < 3 ^ k := Nat.pow_pos (by decide)
theorem ext3_take (x : List Int) {l : Nat} (h : l < 3) : (ext3 x).take (l + 1) = (ext3 x).take l ++ [x ++ [(l : Int)]] := by
 have : l = 0 ∨ l = 1 ∨ l = 2 := by omega
 rcases this with rfl | rfl | rfl <;> rfl
def fmE (L : List (List Int)) (k : Nat) : List (List Int) := (L.take k).flatMap ext3
theorem fmE_s (L : List (List Int)) {k : Nat} (h : k < L.length) : fmE L (k + 1) = fmE L k ++ ext3 (L.getD k []) := by
 unfold fmE
 rw [take_snocA L [] h, List.flatMap_append, List.flatMap_cons, List.flatMap_nil, List.append_nil]
theorem fmE_len (L : List (List Int)) : ∀ k, k ≤ L.length → (fmE L k).length = 3 * k
 | 0, _ => rfl
 | k + 1, h => by rw [fmE_s L h, List.length_append, fmE_len L k (by omega), ext3_len]; omega
theorem ix_lf (L : List (List Int)) (f : Fl) (i : Int) {K : V → Prop} : aIx 1 (.arr (L.map fun l => ints l f) f) (I i) K = (0 ≤ i ∧ i < L.length ∧ K (.cptr (ints (L.getD i.toNat []) f))) := e_ixE (fun l => ints l f) [] (fun _ => rfl) L f i
theorem bs_nil (K : V → Prop) : aBS 1 1 (.arr [] .full) [(0, .arr [] .full)] K = K (.arr [ints [] .full] .full) := by
 have h : okE 1 (.arr [] .full) := okE_ints [] .full ▸ trivial
 simp [aBS, aPs, setP, h]; rfl
theorem ix_n1 {K : V → Prop} : aIx 1 (.arr [ints [] .full] .full) (I 0) K = K (.cptr (ints [] .full)) := by
 have := ix_lf [[]] .full 0 (K := K)
 simpa using this
theorem c65z (n : Int) (H : Hp) (h : n ≤ 1) : Ret Try.prog 65 [I n] H (.arr [ints [] .full] .full) H := by
 refine mk65 _ rfl (Nat.le_refl _) (.inl rfl) ?_
 simp only [vc65, real]
 repeat (first | (with_reducible first | refine Ju.go ?_ | (refine Hd.go ?_; intro K Q hK hQ; simp only [bs_nil]; subst hK hQ) | refine Jr.go ?_) | refine sd ?_)
 refine loop_of (fun _ : Nat => True) (fun _ => [I n, .arr [ints [] .full] .full, I 1]) (fun _ => H) (fun _ => 0) 0 trivial rfl rfl ?_
 rintro i -
 have d : ¬ (1 : Int) < n := by omega
 repeat (first | (with_reducible first | refine Ju.go ?_ | (refine Hd.go ?_; intro K Q hK hQ; simp only [List.getD_cons_succ, List.getD_cons_zero, nod_imm, Try.underlying3, e_lss, d, decide_false, e_cond, Bool.false_eq_true, if_false]; subst hK hQ) | refine Jr.go ?_) | refine sd ?_)
 exact end1 (.keep _ (.arr _ _ fun c hc => by rw [List.mem_singleton.1 hc]; exact bel_ints _ [] .full))
theorem c65 (n : Nat) (H : Hp) (h2 : 2 ≤ n) (h7 : n ≤ 7) : Ret Try.prog 65 [I n] H (lists (allB (n - 1)) .no) H := by
 refine mk65 _ rfl (Nat.le_refl _) (.inl rfl) ?_
 simp only [vc65, real]
 repeat (first | (with_reducible first | refine Ju.go ?_ | (refine Hd.go ?_; intro K Q hK hQ; simp only [bs_nil]; subst hK hQ) | refine Jr.go ?_) | refine sd ?_)
 refine loop_of (fun q : Nat × Fl => 1 ≤ q.1 ∧ q.1 ≤ n ∧ (q.2 = .full ∨ q.2 = .no) ∧ (q.2 = .full → q.1 = 1)) (fun q => [I n, .arr ((allB (q.1 - 1)).map fun l => ints l q.2) q.2, I q.1]) (fun _ => H) (fun q => n - q.1) (1, .full) ⟨Nat.le_refl _, by show 1 ≤ n; omega, .inl rfl, fun _ => rfl⟩ rfl rfl ?_
 rintro ⟨i, f⟩ ⟨h1, hi, hf, hf1⟩
 simp only at h1 hi hf hf1 ⊢
 have hnd : f.nd = f := by rcases hf with rfl | rfl <;> rfl
 have hi3 := pow3 (k := i - 1) (by omega)
 have hip := pow3_pos (i - 1)
 have hL := allB_len (i - 1)
 have hE : fmE (allB (i - 1)) (allB (i - 1)).length = allB i := by
  unfold fmE
  rw [List.take_of_length_le (Nat.le_refl _)]
  have : i = i - 1 + 1 := by omega
  conv => rhs; rw [this]
  rfl
 have hM : ∀ k, ((allB (i - 1)).getD k []).length ≤ 7 := fun k => by
  by_cases h : k < (allB (i - 1)).length
  ·rw [List.getD_eq_getElem?_getD, List.getElem?_eq_getElem h]
   have := ((allB_ok _ _).1 (List.getElem_mem h)).1
   show ((allB (i - 1))[k]).length ≤ 7
   omega
  ·rw [List.getD_eq_getElem?_getD, List.getElem?_eq_none (by omega)]; exact Nat.zero_le _
 generalize hLa : allB (i - 1) = L at *
 repeat (first | (with_reducible first | refine Ju.go ?_ | (refine Hd.go ?_; intro K Q hK hQ; simp only [List.getD_cons_succ, List.getD_cons_zero, nod_imm, Try.underlying3, e_lss, e_cond, decide_eq_true_eq]; subst hK hQ) | refine Jr.go ?_) | refine sd ?_)
 by_cases hlt : i < n
 ·have d : (i : Int) < n := by omega
  repeat (first | (with_reducible first | refine Ju.go ?_ | (refine Hd.go ?_; intro K Q hK hQ; simp only [d, if_true]; subst hK hQ) | refine Jr.go ?_) | refine sd ?_)
  refine loop_of (fun q : Nat × Fl => q.1 ≤ L.length ∧ q.2.ap = true ∧ (q.1 ≠ 0 → q.2 = .own)) (fun q => [I n, .arr (L.map fun l => ints l f) f, I i, lists (fmE L q.1) q.2, I q.1]) (fun _ => H) (fun q => L.length - q.1) (0, .full) ⟨Nat.zero_le _, rfl, fun h => absurd rfl h⟩ rfl rfl ?_
  rintro ⟨k, g⟩ ⟨hk, hg, hg0⟩
  simp only at hk hg hg0 ⊢
  have hfl := fmE_len L k hk
  repeat (first | (with_reducible first | refine Ju.go ?_ | (refine Hd.go ?_; intro K Q hK hQ; simp only [List.getD_cons_succ, List.getD_cons_zero, nod_arr, hnd, e_lenA, List.length_map, nod_imm, Try.underlying3, e_lss, e_cond, decide_eq_true_eq]; subst hK hQ) | refine Jr.go ?_) | refine sd ?_)
  by_cases hkl : k < L.length
  ·have dk : (k : Int) < L.length := by omega
   repeat (first | (with_reducible first | refine Ju.go ?_ | (refine Hd.go ?_; intro K Q hK hQ; simp only [dk, if_true]; subst hK hQ) | refine Jr.go ?_) | refine sd ?_)
   refine loop_of (fun q : Nat × Fl => q.1 ≤ 3 ∧ q.2.ap = true ∧ (q.1 ≠ 0 → q.2 = .own)) (fun q => [I n, .arr (L.map fun l => ints l f) f, I i, lists (fmE L k ++ (ext3 (L.getD k [])).take q.1) q.2, I k, I q.1]) (fun _ => H) (fun q => 3 - q.1) (0, g) ⟨Nat.zero_le 3, hg, fun h => absurd rfl h⟩ (by simp) rfl ?_
   rintro ⟨l, g2⟩ ⟨hl, hg2, hg20⟩
   simp only at hl hg2 hg20 ⊢
   repeat (first | (with_reducible first | refine Ju.go ?_ | (refine Hd.go ?_; intro K Q hK hQ; simp only [List.getD_cons_succ, List.getD_cons_zero, nod_imm, Try.underlying3, e_lss, e_cond, decide_eq_true_eq]; subst hK hQ) | refine Jr.go ?_) | refine sd ?_)
   by_cases hl3 : l < 3
   ·have dl : (l : Int) < 3 := by omega
    have es := ext3_take (L.getD k []) hl3
    have hln : (fmE L k ++ (ext3 (L.getD k [])).take l).length ≤ 3000 := by rw [List.length_append, hfl, List.length_take]; omega
    have hMk := hM k
    repeat (first | (with_reducible first | refine Ju.go ?_ | (refine Hd.go ?_; intro K Q hK hQ; simp only [dl, if_true, List.getD_cons_succ, List.getD_cons_zero, nod_arr, hnd, nod_imm, ix_lf, dk, Int.toNat_natCast, true_and, nod_cptr, e_ldci, nod_ints, e_app0, bs1, nd_full, e_app, ap_own, nd_own, bs1L, nod_lists, e_appL]; subst hK hQ) | refine Jr.go ?_) | refine sd ?_)
    refine ⟨by simp only [List.length_singleton]; omega, ?_⟩
    have r1 : R64 ((l : Int) + 1) := by unfold R64; omega
    repeat (first | (with_reducible first | refine Ju.go ?_ | (refine Hd.go ?_; intro K Q hK hQ; simp only [List.getD_cons_zero, List.getD_cons_succ, nod_imm, Try.underlying3, e_add, r1, true_and]; subst hK hQ) | refine Jr.go ?_) | refine sd ?_)
    exact ⟨(l + 1, .own), ⟨hl3, rfl, fun _ => rfl⟩, by show [_, _, _, lists (fmE L k ++ (ext3 (L.getD k [])).take (l + 1)) .own, _, _] = _; rw [es, ← List.append_assoc]; rfl, rfl, by show 3 - (l + 1) < 3 - l; omega⟩
   ·have dl : ¬ (l : Int) < 3 := by omega
    have el : (ext3 (L.getD k [])).take l = ext3 (L.getD k []) := List.take_of_length_le (by rw [ext3_len]; omega)
    have hog := hg20 (by omega)
    rw [el, ← fmE_s L hkl, hog]
    repeat (first | (with_reducible first | refine Ju.go ?_ | (refine Hd.go ?_; intro K Q hK hQ; simp only [dl, if_false, List.getD_cons_succ, List.getD_cons_zero, nod_imm, Try.underlying3, e_add]; subst hK hQ) | refine Jr.go ?_) | refine sd ?_)
    exact ⟨(k + 1, .own), ⟨hkl, rfl, fun _ => rfl⟩, rfl, trivial, by show L.length - (k + 1) < L.length - k; omega⟩
  ·have dk : ¬ (k : Int) < L.length := by omega
   obtain rfl : k = L.length := by omega
   rw [hE, hg0 (by omega)]
   repeat (first | (with_reducible first | refine Ju.go ?_ | (refine Hd.go ?_; intro K Q hK hQ; simp only [dk, if_false, List.getD_cons_succ, List.getD_cons_zero, nod_imm, Try.underlying3, e_add]; subst hK hQ) | refine Jr.go ?_) | refine sd ?_)
   exact ⟨(i + 1, .no), ⟨by show 1 ≤ i + 1; omega, hlt, .inr rfl, fun h => by cases h⟩, rfl, trivial, by show n - (i + 1) < n - i; omega⟩
 ·have d : ¬ (i : Int) < n := by omega
  obtain rfl : i = n := by omega
  obtain rfl : f = .no := by
   rcases hf with h | h
   ·have := hf1 h; omega
   ·exact h
  repeat (first | (with_reducible first | refine Ju.go ?_ | (refine Hd.go ?_; intro K Q hK hQ; simp only [d, if_false]; subst hK hQ) | refine Jr.go ?_) | refine sd ?_)
  rw [hLa]
  exact end1 (.keep (lists L .no) (.arr _ _ fun c hc => by obtain ⟨l, -, rfl⟩ := List.mem_map.1 hc; exact bel_ints _ _ _))
theorem lexL_at {a b : List Int} {i : Nat} (hl : a.length = b.length) (hi : i < a.length) (ht : a.take i = b.take i) (hn : a.getD i 0 ≠ b.getD i 0) : lexL a b = decide (a.getD i 0 < b.getD i 0) := by
 rw [← cmpL_lex, cmpL_at a b i hl hi ht hn, decide_eq_decide]
 unfold cmp1
 split
 ·omega
 ·split <;> omega
theorem take_eq {a b : List Int} (hl : a.length = b.length) {i : Nat} (hi : i ≤ a.length) (h : ∀ j, j < i → a.getD j 0 = b.getD j 0) : a.take i = b.take i := by
 refine ext_getD (by rw [List.length_take, List.length_take, hl]) fun j hj => ?_
 rw [List.length_take] at hj
 rw [List.getD_eq_getElem?_getD, List.getElem?_take, if_pos (by omega), List.getD_eq_getElem?_getD, List.getElem?_take, if_pos (by omega), ← List.getD_eq_getElem?_getD, ← List.getD_eq_getElem?_getD]
 exact h j (by omega)
theorem c44 (a b : List Int) (H : Hp) (hl : a.length = b.length) (ha : a.length ≤ 1000000) : Ret Try.prog 44 [ints a .no, ints b .no] H (B (lexL a b)) H := by
 refine mk44 _ _ rfl (Nat.le_refl _) (.inl rfl) ?_
 simp only [vc44, real]
 refine loop_of (fun i : Nat => i ≤ a.length ∧ ∀ j, j < i → a.getD j 0 = b.getD j 0) (fun i => [ints a .no, ints b .no, I i]) (fun _ => H) (fun i => a.length - i) 0 ⟨Nat.zero_le _, fun j h => absurd h (Nat.not_lt_zero j)⟩ rfl rfl ?_
 rintro i ⟨hi, hp⟩
 repeat (first | (with_reducible first | refine Ju.go ?_ | (refine Hd.go ?_; intro K Q hK hQ; simp only [List.getD_cons_zero, nod_ints, nd_no, e_len, List.getD_cons_succ, nod_imm, Try.underlying3, e_lss, e_cond, decide_eq_true_eq]; subst hK hQ) | refine Jr.go ?_) | refine sd ?_)
 by_cases hlt : i < a.length
 ·have d : (i : Int) < a.length := by omega
  have d1 : (i : Int) < b.length := by omega
  have d2 : i < b.length := by omega
  by_cases he : a.getD i 0 = b.getD i 0
  ·repeat (first | (with_reducible first | refine Ju.go ?_ | (refine Hd.go ?_; intro K Q hK hQ; simp only [d, if_true, List.getD_cons_zero, nod_ints, nd_no, List.getD_cons_succ, nod_imm, e_ix, Int.toNat_natCast, he, true_and, nod_cptr, e_ldc, d1, Try.underlying3, e_neq, decide_true, Bool.not_true, e_cond, Bool.false_eq_true, if_false, e_add]; subst hK hQ) | refine Jr.go ?_) | refine sd ?_)
   exact ⟨i + 1, ⟨hlt, fun j hj => by by_cases e : j = i; exact e ▸ he; exact hp j (by omega)⟩, rfl, rfl, by omega⟩
  ·rw [lexL_at hl hlt (take_eq hl hi hp) he]
   repeat (first | (with_reducible first | refine Ju.go ?_ | (refine Hd.go ?_; intro K Q hK hQ; simp only [d, if_true, List.getD_cons_zero, nod_ints, nd_no, List.getD_cons_succ, nod_imm, e_ix, Int.toNat_natCast, true_and, nod_cptr, e_ldc, d1, Try.underlying3, e_neq, he, decide_false, Bool.not_false, e_cond, e_lss]; subst hK hQ) | refine Jr.go ?_) | refine sd ?_)
   exact end1 (fzI _)
 ·have d : ¬ (i : Int) < a.length := by omega
  obtain rfl : i = a.length := by omega
  have e : a = b := ext_getD hl hp
  have : lexL a b = false := by rw [e]; exact lexL_irr b
  rw [this]
  repeat (first | (with_reducible first | refine Ju.go ?_ | (refine Hd.go ?_; intro K Q hK hQ; simp only [d, if_false]; subst hK hQ) | refine Jr.go ?_) | refine sd ?_)
  exact end1 (fzI _)
theorem c29 (ws : List Wd) (rs : List Rk) (H : Hp) (hw : okWs ws = true) (hr : okRs rs = true) (h7 : ws.length ≤ 7) : Ret Try.prog 29 [.arr (ws.map wdV) .no, .arr (rs.map rkV) .no] H (.tup [ints (bB ws rs) .no, ints (vios ws (bB ws rs) rs) .no]) H := by
 refine mk29 _ _ rfl (Nat.le_refl _) (.inl rfl) ?_
 simp only [vc29, real]
 repeat (first | (with_reducible first | refine Ju.go ?_ | (refine Hd.go ?_; intro K Q hK hQ; simp only [nod_arr, nd_no, e_lenA, List.length_map, nod_imm]; subst hK hQ) | refine Jr.go ?_) | refine sd ?_)
 have hbb := bB_ok ws rs
 by_cases h1 : ws.length ≤ 1
 ·have hb0 : bB ws rs = [] := List.length_eq_zero_iff.1 (by have := (okBr_iff.1 hbb).1; omega)
  rw [hb0] at hbb ⊢
  refine call_of (c65z _ H (by omega)) ?_
  repeat (first | (with_reducible first | refine Ju.go ?_ | (refine Hd.go ?_; intro K Q hK hQ; simp only [nod_arr, nd_full, ix_n1, nod_cptr, e_ldci, nd_no, nod_ints]; subst hK hQ) | refine Jr.go ?_) | refine sd ?_)
  refine call_wk (c41 ws [] rs H hw hr hbb) (.cons (.refl _) (.cons (.refl _) (.cons (.full _) .nil))) ?_
  repeat (first | (with_reducible first | refine Ju.go ?_ | (refine Hd.go ?_; intro K Q hK hQ; simp only []; subst hK hQ) | refine Jr.go ?_) | refine sd ?_)
  refine loop_of (fun _ : Nat => True) (fun _ => [.arr (ws.map wdV) .no, .arr (rs.map rkV) .no, .arr [ints [] .full] .full, ints [] .full, ints (vios ws [] rs) .no, I 1]) (fun _ => H) (fun _ => 0) 0 trivial rfl rfl ?_
  rintro i -
  have d : ¬ (1 : Int) < ([ints [] .full] : List V).length := by decide
  repeat (first | (with_reducible first | refine Ju.go ?_ | (refine Hd.go ?_; intro K Q hK hQ; simp only [List.getD_cons_succ, List.getD_cons_zero, nod_arr, nd_full, e_lenA, lv_cons, List.length_nil, Nat.zero_add, Int.cast_ofNat_Int, nod_imm, Try.underlying3, e_lss, e_cond, decide_eq_true_eq]; subst hK hQ) | refine Jr.go ?_) | refine sd ?_)
  exact end2 rfl rfl (.full [] (bel_ints _ [] .full)) (.keep _ (bel_ints _ _ _))
 ·refine call_of (c65 ws.length H (by omega) h7) ?_
  have hl := allB_len (ws.length - 1)
  have hp := pow3_pos (ws.length - 1)
  have h729 := pow3 (k := ws.length - 1) (by omega)
  have hok : ∀ i, i < (allB (ws.length - 1)).length → okBr ((allB (ws.length - 1)).getD i []) ws.length = true := fun i hi => by
   rw [List.getD_eq_getElem?_getD, List.getElem?_eq_getElem hi]
   have := (allB_ok _ _).1 (List.getElem_mem hi)
   exact okBr_iff.2 this
  have p0 : (0 : Int) < (allB (ws.length - 1)).length := by omega
  have p1 : (0 : Int).toNat = 0 := rfl
  have f1 := Fst.one (ws.length - 1) (fun b => vios ws b rs)
  have ho0 := hok 0 (by omega)
  repeat (first | (with_reducible first | refine Ju.go ?_ | (refine Hd.go ?_; intro K Q hK hQ; simp only [nod_lists, nd_no, e_ixL, p0, p1, true_and, nod_cptr, e_ldci, nod_arr, nod_ints]; subst hK hQ) | refine Jr.go ?_) | refine sd ?_)
  refine call_of (c41 ws _ rs H hw hr ho0) ?_
  repeat (first | (with_reducible first | refine Ju.go ?_ | (refine Hd.go ?_; intro K Q hK hQ; simp only []; subst hK hQ) | refine Jr.go ?_) | refine sd ?_)
  refine loop_of (fun q : Nat × List Int => 1 ≤ q.1 ∧ q.1 ≤ (allB (ws.length - 1)).length ∧ Fst (ws.length - 1) (fun b => vios ws b rs) q.1 q.2) (fun q => [.arr (ws.map wdV) .no, .arr (rs.map rkV) .no, lists (allB (ws.length - 1)) .no, ints q.2 .no, ints (vios ws q.2 rs) .no, I q.1]) (fun _ => H) (fun q => (allB (ws.length - 1)).length - q.1) (1, _) ⟨Nat.le_refl _, by show 1 ≤ _; omega, f1⟩ rfl rfl ?_
  rintro ⟨i, b⟩ ⟨hi1, hi, hF⟩
  simp only at hi1 hi hF ⊢
  repeat (first | (with_reducible first | refine Ju.go ?_ | (refine Hd.go ?_; intro K Q hK hQ; simp only [List.getD_cons_succ, List.getD_cons_zero, nod_lists, nd_no, e_lenL, nod_imm, Try.underlying3, e_lss, e_cond, decide_eq_true_eq]; subst hK hQ) | refine Jr.go ?_) | refine sd ?_)
  by_cases hlt : i < (allB (ws.length - 1)).length
  ·have d : (i : Int) < (allB (ws.length - 1)).length := by omega
   have hoi := hok i hlt
   have hrl := (okRs_p hr).1
   have lb : (vios ws ((allB (ws.length - 1)).getD i []) rs).length = (vios ws b rs).length := by rw [vios_len, vios_len]
   have lb2 := vios_len ws ((allB (ws.length - 1)).getD i []) rs
   repeat (first | (with_reducible first | refine Ju.go ?_ | (refine Hd.go ?_; intro K Q hK hQ; simp only [d, if_true, List.getD_cons_succ, List.getD_cons_zero, nod_lists, nd_no, nod_imm, e_ixL, Int.toNat_natCast, true_and, nod_cptr, e_ldci, nod_arr, nod_ints]; subst hK hQ) | refine Jr.go ?_) | refine sd ?_)
   refine call_of (c41 ws _ rs H hw hr hoi) ?_
   repeat (first | (with_reducible first | refine Ju.go ?_ | (refine Hd.go ?_; intro K Q hK hQ; simp only [List.getD_cons_zero, List.getD_cons_succ, nod_ints, nd_no]; subst hK hQ) | refine Jr.go ?_) | refine sd ?_)
   refine call_of (c44 _ _ H lb (by omega)) ?_
   cases hx : lexL (vios ws ((allB (ws.length - 1)).getD i []) rs) (vios ws b rs)
   ·repeat (first | (with_reducible first | refine Ju.go ?_ | (refine Hd.go ?_; intro K Q hK hQ; simp only [nod_imm, e_cond, Bool.false_eq_true, if_false, List.getD_cons_zero, List.getD_cons_succ, Try.underlying3, e_add]; subst hK hQ) | refine Jr.go ?_) | refine sd ?_)
    exact ⟨(i + 1, b), ⟨by show 1 ≤ i + 1; omega, hlt, hF.skip hlt hx⟩, rfl, rfl, by show _ - (i + 1) < _ - i; omega⟩
   ·repeat (first | (with_reducible first | refine Ju.go ?_ | (refine Hd.go ?_; intro K Q hK hQ; simp only [nod_imm, e_cond, if_true, List.getD_cons_succ, List.getD_cons_zero, nod_lists, nd_no, e_ixL, d, Int.toNat_natCast, true_and, nod_cptr, e_ldci, nod_ints, Try.underlying3, e_add]; subst hK hQ) | refine Jr.go ?_) | refine sd ?_)
    exact ⟨(i + 1, _), ⟨by show 1 ≤ i + 1; omega, hlt, hF.less (fun b => vios_len ws b rs) hx⟩, rfl, rfl, by show _ - (i + 1) < _ - i; omega⟩
  ·have d : ¬ (i : Int) < (allB (ws.length - 1)).length := by omega
   obtain rfl : i = (allB (ws.length - 1)).length := by omega
   obtain rfl := hF.isB hw hr
   repeat (first | (with_reducible first | refine Ju.go ?_ | (refine Hd.go ?_; intro K Q hK hQ; simp only [d, if_false]; subst hK hQ) | refine Jr.go ?_) | refine sd ?_)
   exact end2 rfl rfl (.keep _ (bel_ints _ _ _)) (.keep _ (bel_ints _ _ _))
end Go.Proofs.Ytgicpobploinhaa
