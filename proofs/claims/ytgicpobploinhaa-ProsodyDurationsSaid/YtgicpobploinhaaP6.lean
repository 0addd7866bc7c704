/- The machinery of the proof, part 6: an abstract machine over list values, proved sound against the model, and the contracts of the functions that the law reaches. No condition. -/
import Derived.Test.YtgicpobploinhaaP5
import Derived.ChangeSame
import Derived.WalkKit
import Derived.ProofKit
import Derived.OpenShut
import Derived.ShutString
import Derived.ChangeOld
import Derived.Below

set_option linter.unusedVariables false
set_option linter.unusedSimpArgs false
set_option linter.unnecessarySimpa false
set_option maxRecDepth 20000
set_option maxHeartbeats 2000000
namespace Go.Proofs.Ytgicpobploinhaa
open Go Go.Ab Go.Proofs
attribute [local congr] g_bin g_nilS g_nilP g_un g_ext g_bx g_fa g_ld g_st g_ix g_ixA g_slc g_mk g_bs g_bd g_nc g_cv g_len g_lenT g_app g_appB g_cpy g_mm g_call g_callG g_calm g_calmG g_range g_res g_pick g_cond g_loop g_Jv g_eqS g_eqP g_fd g_ixT g_ta g_lkp g_upd g_mkM g_appS g_inv g_callE g_callEG g_invE g_zr g_wr
theorem Ret.weakR {P : Program} {f : Nat} {args args' : List V} {H H' : Hp} {v : V} (h : Ret P f args' H v H') (hl : args.length = args'.length) (hr : ∀ σ w i x, Rel σ w (argF args i) x → Rel σ w (argF args' i) x) (hd : ∀ i, (argF args' i).Nd) (hda : ∀ a, a ∈ args' → a.Nd) : Ret P f args H v H' := by
 refine ⟨h.1, fun σ w ra hlen hst hnd => ?_⟩
 have no : ∀ i j x rb, ¬ OwnB (leafV (argF args' i) j) x rb := fun i j x rb hw => not_own_Nd (hd i) hw
 obtain ⟨s1, o1⟩ := hst.reframe (argF args') ra id (fun i => hr _ _ i _ (hst.frame i)) (fun i j rb ho => (no i j _ rb ho).elim) (fun i i' j j' rb _ _ e => e)
 refine (h.2 σ w ra (hl.symm.trans hlen) s1 hda).mono fun e w' he => ?_
 obtain ⟨x, σ', e1, e2, e3⟩ := he
 exact ⟨x, σ', e1, e2, e3.toLe, e3.os, e3.output, e3.tape, e3.size, fun rb q1 q2 q3 => e3.keep rb q1 q2 (fun q => q3 (o1 rb q)), fun rb q1 q2 => o1 rb (e3.own rb q1 q2), e3.fresh⟩
abbrev tbl : Sou := ⟨[1, 1, 3, 9, 9], 9, [[1], [2], [3], [1, 3]]⟩
abbrev tblF : V := .agg [ints [1, 1, 3, 9, 9] .full, I 9, .arr ([[1], [2], [3], [1, 3]].map fun l => ints l .full) .full]
theorem okE_li (l : List Int) : okE 1 (ints l .full) = True := eq_true ⟨rfl, fun c hc => by
 have : c = ints l .full := by simpa [V.cl, ints] using hc
 subst this; rfl⟩
theorem bs_li4 (z : V) (a b c d : List Int) (K : V → Prop) (k : K (.arr ([a, b, c, d].map fun l => ints l .full) .full)) : aBS 1 4 z [(0, ints a .full), (1, ints b .full), (2, ints c .full), (3, ints d .full)] K := by
 simp only [aBS, aPs, setP, okE_li, and_true]
 exact ⟨⟨by decide, by decide, by decide, by decide⟩, k⟩
theorem bsG {s n : Nat} {z : V} {ps : List (Nat × V)} {K : V → Prop} (L : List V) (h1 : aPs s n ps) (h2 : setP (List.replicate n z) ps = L) (k : K (.arr L .full)) : aBS s n z ps K := ⟨h1, by rw [h2]; exact k⟩
theorem bsI {n : Nat} {z : V} {ps : List (Nat × V)} {K : V → Prop} (l : List Int) (h1 : aPs 1 n ps) (h2 : setP (List.replicate n z) ps = l.map I) (k : K (ints l .full)) : aBS 1 n z ps K := ⟨h1, by rw [h2]; exact k⟩
theorem okE_wd (w : Wd) : okE 5 (wdV w) = True := eq_true ⟨rfl, fun c hc => by
 simp only [V.cl, List.mem_cons, List.not_mem_nil, or_false] at hc
 rcases hc with rfl | rfl | rfl | rfl | rfl <;> rfl⟩
theorem okE_3 (a b c : Int) : okE 3 (.agg [I a, I b, I c]) = True := eq_true ⟨rfl, fun c hc => by
 simp only [V.cl, List.mem_cons, List.not_mem_nil, or_false] at hc
 rcases hc with rfl | rfl | rfl <;> rfl⟩
theorem c48 (H : Hp) : Ret Try.prog 48 [] H tblF H := by
 have z0 : (H ++ [Blk.cells [V.arr [] .full, I 0, .arr [] .full]])[H.length]? = some (.cells [V.arr [] .full, I 0, .arr [] .full]) := tail0 _ _
 have e3 : okE 3 (stV tblF) = True := eq_true ⟨rfl, fun c hc => by
  simp only [stV, V.cl, List.map_cons, List.map_nil, List.mem_cons, List.not_mem_nil, or_false] at hc
  rcases hc with rfl | rfl | rfl <;> rfl⟩
 refine mk48  rfl (Nat.le_refl _) (.inl rfl) ?_
 simp only [vc48, real]
 repeat (first | (with_reducible first | refine Ju.go ?_ | (refine Hd.go ?_; intro K Q hK hQ; simp only [e_bx, okE_agg, lv_cons, List.length_nil, Nat.zero_add, Nat.reduceAdd, all_c, ck_arr, ck_I, all_n, Bool.and_self, and_true, cl_agg, true_and]; subst hK hQ) | refine Jr.go ?_) | refine sd ?_)
 refine bsI [1, 1, 3, 9, 9] (by simp [aPs, okE_I]) rfl ?_
 repeat (first | (with_reducible first | refine Ju.go ?_ | (refine Hd.go ?_; intro K Q hK hQ; simp only [bs1]; subst hK hQ) | refine Jr.go ?_) | refine sd ?_)
 refine bsI [1, 3] (by simp [aPs, okE_I]) rfl ?_
 repeat (first | (with_reducible first | refine Ju.go ?_ | (refine Hd.go ?_; intro K Q hK hQ; simp only [nod_ints, nd_full]; subst hK hQ) | refine Jr.go ?_) | refine sd ?_)
 refine bs_li4 _ [1] [2] [3] [1, 3] _ ?_
 repeat (first | (with_reducible first | refine Ju.go ?_ | (refine Hd.go ?_; intro K Q hK hQ; simp only [nod_ints, nd_full, List.map_cons, List.map_nil, nod_arr, e_bd1, okE_ints, Nat.zero_add, lv_cons, List.length_nil, Nat.reduceAdd, Nat.reduceLeDiff, cl_ints, spl_0, spl_n, okE_I, cl_imm, spl_s, okE_arr, cl_arr, e_bd0, true_and, nod_ptr, own0_ints, e_sc0, stV_agg, nodL_imm, nodL_arr, okE_agg, all_c, ck_ints, ck_I, ck_arr, all_n, Bool.and_self, and_true, cl_agg, e_rA0, dr_0, tk_s, tk_0]; subst hK hQ) | refine Jr.go ?_) | refine sd ?_)
 refine end1A (.keep _ (.agg _ fun c hc => ?_))
 simp only [List.mem_cons, List.not_mem_nil, or_false] at hc
 rcases hc with rfl | rfl | rfl
 ·exact bel_ints _ _ _
 ·exact .imm _
 ·refine .arr _ _ fun c hc => ?_
  have hc' : c ∈ ([[1], [2], [3], [1, 3]] : List (List Int)).map fun l => ints l .full := hc
  obtain ⟨l, -, rfl⟩ := List.mem_map.1 hc'
  exact bel_ints _ _ _
theorem wk_tbl {σ : Sg} {w : World} {x : Value} (h : Rel σ w tblF x) : Rel σ w (souV tbl) x := by
 cases h with
 | agg cs ys hl h0 h1 =>
  refine .agg _ ys hl h0 fun i c hi => ?_
  match i with
  | 0 => cases hi; exact Rel.wkF (h1 0 _ rfl)
  | 1 => cases hi; exact h1 1 _ rfl
  | 2 =>
   cases hi
   exact Rel.wk (h1 2 _ rfl) (.sub ([[1], [2], [3], [1, 3]].map fun l : List Int => l.map I))
  | i + 3 => cases hi
abbrev exPh : List Int := [1, 3, 4, 2, 1, 3, 5, 1]
abbrev exWs : List Wd := [⟨3, 0, 0, false, false⟩, ⟨3, 0, 2, false, false⟩, ⟨3, 0, 0, false, false⟩, ⟨3, 0, 0, false, false⟩]
abbrev exRs : List Rk := [⟨1, 1, 6⟩, ⟨3, 1, 1⟩]
theorem lv35 : lvT Try.prog 10000 35 = some [.int, .int, .int] := by kernel_rfl
theorem gd35 : Try.prog.eqGuardType Try.prog.depth 35 = false := by kernel_rfl
theorem lf35 (x y : Sy3) : lfL [.int, .int, .int] [I x.f, I x.n, I x.t] [I y.f, I y.n, I y.t] = some (decide (x = y)) := by
 cases x; cases y
 simp [lfL, lfE, Bool.decide_and]
theorem eq35 {K : V → Prop} (x y : Sy3) : aEqS Try.prog 35 .eql (syV x) (syV y) K = K (B (decide (x = y))) := by
 refine propext ⟨fun ⟨ls, r, h1, h2, h3, h4⟩ => ?_, fun h => ⟨_, _, lv35, lf35 x y, gd35, h⟩⟩
 obtain rfl : ls = _ := Option.some.inj (h1.symm.trans lv35)
 obtain rfl : r = _ := Option.some.inj (h2.symm.trans (lf35 x y))
 exact h4
theorem c15 (H : Hp) : Ret Try.prog 15 [] H (B true) H := by
 refine mk15  rfl (Nat.le_refl _) (.inl rfl) ?_
 simp only [vc15, real]
 repeat (first | (with_reducible first | refine Ju.go ?_ | (refine Hd.go ?_; intro K Q hK hQ; simp only []; subst hK hQ) | refine Jr.go ?_) | refine sd ?_)
 refine call_of (c48 _) ?_
 repeat (first | (with_reducible first | refine Ju.go ?_ | (refine Hd.go ?_; intro K Q hK hQ; simp only []; subst hK hQ) | refine Jr.go ?_) | refine sd ?_)
 refine bsI exPh (by simp [aPs, okE_I]) rfl ?_
 repeat (first | (with_reducible first | refine Ju.go ?_ | (refine Hd.go ?_; intro K Q hK hQ; simp only [nod_agg, List.map_cons, List.map_nil, nodL_ints, nd_full, nodL_imm, nodL_arr, nod_ints]; subst hK hQ) | refine Jr.go ?_) | refine sd ?_)
 have c := c16 tbl exPh H ⟨by decide, by decide, by decide⟩ (by decide)
 rw [if_pos (by decide)] at c
 have ey : sylP tbl exPh = [⟨0, 2, 4⟩, ⟨4, 6, 8⟩] := by decide +kernel
 rw [ey] at c
 refine call_of (Ret.weakR c rfl (fun σ w i x h => ?_) (fun i => ?_) (fun a ha => ?_)) ?_
 ·match i with
  | 0 => exact wk_tbl h
  | 1 => exact Rel.wkF h
  | i + 2 => exact .junk _
 ·match i with
  | 0 => rfl
  | 1 => rfl
  | i + 2 => rfl
 ·simp only [List.mem_cons, List.not_mem_nil, or_false] at ha
  rcases ha with rfl | rfl <;> rfl
 ·clear c
  repeat (first | (with_reducible first | refine Ju.go ?_ | (refine Hd.go ?_; intro K Q hK hQ; simp only [List.map_cons, List.map_nil, nod_tup, nod2_imm, e_x20, e_x21, e_bd1, okE_B, Nat.zero_add, lv_cons, List.length_nil, Nat.reduceAdd, Nat.reduceLeDiff, cl_imm, spl_0, spl_n, okE_I, spl_s, e_bd0, true_and]; subst hK hQ) | refine Jr.go ?_) | refine sd ?_)
  refine bsG ([true, false, true, false, false].map boV) (by simp [aPs, okE_B]) rfl ?_
  repeat (first | (with_reducible first | refine Ju.go ?_ | (refine Hd.go ?_; intro K Q hK hQ; simp only [nod_agg, List.map_cons, nodL_imm, List.map_nil, nod_arr, nd_full]; subst hK hQ) | refine Jr.go ?_) | refine sd ?_)
  have c := c22 ⟨true, 1, 0, true, 2⟩ [true, false, true, false, false] H (by decide)
  rw [if_pos (by decide), if_neg (by decide)] at c
  have e1 : mnP ⟨true, 1, 0, true, 2⟩ [true, false, true, false, false] = 2 := by decide +kernel
  have e2 : sdP ⟨true, 1, 0, true, 2⟩ [true, false, true, false, false] = [0] := by decide +kernel
  rw [e1, e2] at c
  refine call_of (Ret.weakR c rfl (fun σ w i x h => ?_) (fun i => ?_) (fun a ha => ?_)) ?_
  ·match i with
   | 0 => exact h
   | 1 => exact Rel.wkF h
   | i + 2 => exact .junk _
  ·match i with
   | 0 => rfl
   | 1 => rfl
   | i + 2 => rfl
  ·simp only [List.mem_cons, List.not_mem_nil, or_false] at ha
   rcases ha with rfl | rfl <;> rfl
  ·clear c
   repeat (first | (with_reducible first | refine Ju.go ?_ | (refine Hd.go ?_; intro K Q hK hQ; simp only [Int.cast_ofNat_Int, nod_tup, List.map_cons, nod2_imm, nod2_ints, nd_no, List.map_nil, e_x30, e_x31, e_x32, e_bd1, okE_I, Nat.zero_add, lv_cons, List.length_nil, Nat.reduceAdd, Nat.reduceLeDiff, cl_imm, spl_0, spl_n, e_bd0, true_and, spl_s, nod_agg, nodL_imm]; subst hK hQ) | refine Jr.go ?_) | refine sd ?_)
   refine bsG (exWs.map wdV) (by simp only [aPs]; exact ⟨by decide, (okE_wd ⟨3, 0, 0, false, false⟩).symm ▸ trivial, by decide, (okE_wd ⟨3, 0, 2, false, false⟩).symm ▸ trivial, by decide, (okE_wd ⟨3, 0, 0, false, false⟩).symm ▸ trivial, by decide, (okE_wd ⟨3, 0, 0, false, false⟩).symm ▸ trivial, trivial⟩) rfl ?_
   repeat (first | (with_reducible first | refine Ju.go ?_ | (refine Hd.go ?_; intro K Q hK hQ; simp only [e_bd1, okE_I, Nat.zero_add, lv_cons, List.length_nil, Nat.reduceAdd, Nat.reduceLeDiff, cl_imm, spl_0, spl_n, spl_s, e_bd0, true_and, nod_agg, List.map_cons, nodL_imm, List.map_nil]; subst hK hQ) | refine Jr.go ?_) | refine sd ?_)
   refine bsG (exRs.map rkV) (by simp only [aPs, okE_3]; decide) rfl ?_
   repeat (first | (with_reducible first | refine Ju.go ?_ | (refine Hd.go ?_; intro K Q hK hQ; simp only [List.map_cons, List.map_nil, nod_arr, nd_full]; subst hK hQ) | refine Jr.go ?_) | refine sd ?_)
   have c := c26 exWs exRs H (by decide) (by decide) (by decide)
   rw [if_pos (by decide +kernel)] at c
   have e1 : brk (srF exWs exRs) (exWs.length - 1) s0 = [0, 1, 0] := by decide +kernel
   have e2 : (bst (srF exWs exRs) s0).1 = [0, 0] := by decide +kernel
   rw [e1, e2] at c
   refine call_of (Ret.weakR c rfl (fun σ w i x h => ?_) (fun i => ?_) (fun a ha => ?_)) ?_
   ·match i with
    | 0 => exact Rel.wkF h
    | 1 => exact Rel.wkF h
    | i + 2 => exact .junk _
   ·match i with
    | 0 => rfl
    | 1 => rfl
    | i + 2 => rfl
   ·simp only [List.mem_cons, List.not_mem_nil, or_false] at ha
    rcases ha with rfl | rfl <;> rfl
   ·clear c
    repeat (first | (with_reducible first | refine Ju.go ?_ | (refine Hd.go ?_; intro K Q hK hQ; simp only [nod_tup, List.map_cons, nod2_ints, nd_no, nod2_imm, List.map_nil, e_x30, e_x31, e_x32, List.getD_cons_zero, List.getD_cons_succ, e_bd1, okE_I, Nat.zero_add, lv_cons, List.length_nil, Nat.reduceAdd, Nat.reduceLeDiff, cl_imm, spl_0, spl_n, spl_s, okE_B, e_bd0, true_and, nod_agg, nodL_imm]; subst hK hQ) | refine Jr.go ?_) | refine sd ?_)
    refine bsG (([⟨1, 0, 150⟩, ⟨4, 0, 200⟩] : List Drl).map drV) (by simp only [aPs, okE_3]; decide) rfl ?_
    repeat (first | (with_reducible first | refine Ju.go ?_ | (refine Hd.go ?_; intro K Q hK hQ; simp only [nod_agg, List.map_cons, nodL_imm, List.map_nil, nod_arr, nd_full]; subst hK hQ) | refine Jr.go ?_) | refine sd ?_)
    have c := c31 ⟨100, 40, true, false, 0, 0⟩ [⟨1, 0, 150⟩, ⟨4, 0, 200⟩] H (by decide)
    rw [if_pos (by decide +kernel)] at c
    have e1 : durP ⟨100, 40, true, false, 0, 0⟩ [⟨1, 0, 150⟩, ⟨4, 0, 200⟩] = 130 := by decide +kernel
    rw [e1] at c
    refine call_of (Ret.weakR c rfl (fun σ w i x h => ?_) (fun i => ?_) (fun a ha => ?_)) ?_
    ·match i with
     | 0 => exact h
     | 1 => exact Rel.wkF h
     | i + 2 => exact .junk _
    ·match i with
     | 0 => rfl
     | 1 => rfl
     | i + 2 => rfl
    ·simp only [List.mem_cons, List.not_mem_nil, or_false] at ha
     rcases ha with rfl | rfl <;> rfl
    ·clear c
     repeat (first | (with_reducible first | refine Ju.go ?_ | (refine Hd.go ?_; intro K Q hK hQ; simp only [nod_tup, List.map_cons, nod2_imm, List.map_nil, e_x20, e_x21]; subst hK hQ) | refine Jr.go ?_) | refine sd ?_)
     refine bsI [100, 100] (by simp [aPs, okE_I]) rfl ?_
     repeat (first | (with_reducible first | refine Ju.go ?_ | (refine Hd.go ?_; intro K Q hK hQ; simp only []; subst hK hQ) | refine Jr.go ?_) | refine sd ?_)
     refine bsI [0, 0] (by simp [aPs, okE_I]) rfl ?_
     repeat (first | (with_reducible first | refine Ju.go ?_ | (refine Hd.go ?_; intro K Q hK hQ; simp only []; subst hK hQ) | refine Jr.go ?_) | refine sd ?_)
     refine bsI [1, 3] (by simp [aPs, okE_I]) rfl ?_
     repeat (first | (with_reducible first | refine Ju.go ?_ | (refine Hd.go ?_; intro K Q hK hQ; simp only [nod_ints, nd_full]; subst hK hQ) | refine Jr.go ?_) | refine sd ?_)
     have c := c35 [100, 100] [0, 0] [1, 3] 240 H (by decide) (by decide) (by decide)
     have e1 : strV [100, 100] [0, 0] [1, 3] 240 = .tup [ints [130, 110] .no, I 0] := by
      unfold strV
      rw [if_pos (by decide +kernel)]
      have : strP [100, 100] [0, 0] [1, 3] 240 = some [130, 110] := by decide +kernel
      rw [this]
     rw [e1] at c
     refine call_of (Ret.weakR c rfl (fun σ w i x h => ?_) (fun i => ?_) (fun a ha => ?_)) ?_
     ·match i with
      | 0 => exact Rel.wkF h
      | 1 => exact Rel.wkF h
      | 2 => exact Rel.wkF h
      | 3 => exact h
      | i + 4 => exact .junk _
     ·match i with
      | 0 => rfl
      | 1 => rfl
      | 2 => rfl
      | 3 => rfl
      | i + 4 => rfl
     ·simp only [List.mem_cons, List.not_mem_nil, or_false] at ha
      rcases ha with rfl | rfl | rfl | rfl <;> rfl
     ·clear c
      have n2 : ∀ xs : List V, (V.arr xs .no).nod2 = .arr xs .no := fun _ => rfl
      have n1 : ∀ xs : List V, (V.arr xs .no).nod = .arr xs .no := fun _ => rfl
      have g0 : ([syV ⟨0, 2, 4⟩, syV ⟨4, 6, 8⟩] : List V).getD (Int.toNat 0) .junk = syV ⟨0, 2, 4⟩ := rfl
      have g1 : ([syV ⟨0, 2, 4⟩, syV ⟨4, 6, 8⟩] : List V).getD (Int.toNat 1) .junk = syV ⟨4, 6, 8⟩ := rfl
      have g2 : (syV ⟨0, 2, 4⟩).cl.length = 3 := rfl
      have g3 : (syV ⟨4, 6, 8⟩).cl.length = 3 := rfl
      repeat (first | (with_reducible first | refine Ju.go ?_ | (refine Hd.go ?_; intro K Q hK hQ; simp only [nod_tup, List.map_cons, nod2_ints, nd_no, nod2_imm, List.map_nil, e_x20, e_x21, n2, List.getD_cons_zero, List.getD_cons_succ, nod_imm, e_neq, decide_true, Bool.not_true, e_gF, cond_false, j_one, n1, e_lenA, lv_cons, List.length_nil, Nat.zero_add, Nat.reduceAdd, Int.cast_ofNat_Int, Try.underlying3, e_cond, Bool.false_eq_true, if_false, nod_cptr, e_bd1, okE_I, Nat.reduceLeDiff, cl_imm, spl_0, spl_n, spl_s, e_bd0, true_and, nod_agg, nodL_imm]; subst hK hQ) | refine Jr.go ?_) | refine sd ?_)
      refine Eq.mpr (eq35 ⟨0, 2, 4⟩ ⟨0, 2, 4⟩) ?_
      repeat (first | (with_reducible first | refine Ju.go ?_ | (refine Hd.go ?_; intro K Q hK hQ; simp only [decide_true, nod_imm, List.getD_cons_zero, nod_arr, nd_no, e_bd1, okE_I, Nat.zero_add, lv_cons, List.length_nil, Nat.reduceAdd, Nat.reduceLeDiff, cl_imm, spl_0, spl_n, spl_s, e_bd0, nod_agg, List.map_cons, nodL_imm, List.map_nil, true_and, e_gT, cond_true, nod_cptr]; subst hK hQ) | refine Jr.go ?_) | refine sd ?_)
      refine Eq.mpr (eq35 ⟨4, 6, 8⟩ ⟨4, 6, 8⟩) ?_
      repeat (first | (with_reducible first | refine Ju.go ?_ | (refine Hd.go ?_; intro K Q hK hQ; simp only [decide_true, nod_imm, List.getD_cons_succ, List.getD_cons_zero, Try.underlying3, e_eql, e_gT, cond_true, j_one, nod_ints, nd_no, bs1, nd_full]; subst hK hQ) | refine Jr.go ?_) | refine sd ?_)
      refine call_of (c25 [0] [0] .no .full H (by decide) (.inl rfl) (.inr rfl)) ?_
      rw [decide_eq_true rfl]
      repeat (first | (with_reducible first | refine Ju.go ?_ | (refine Hd.go ?_; intro K Q hK hQ; simp only [nod_imm, List.getD_cons_succ, List.getD_cons_zero, nod_ints, nd_no, e_gT, cond_true]; subst hK hQ) | refine Jr.go ?_) | refine sd ?_)
      refine bsI [0, 1, 0] (by simp [aPs, okE_I]) rfl ?_
      repeat (first | (with_reducible first | refine Ju.go ?_ | (refine Hd.go ?_; intro K Q hK hQ; simp only [nod_ints, nd_full]; subst hK hQ) | refine Jr.go ?_) | refine sd ?_)
      refine call_of (c25 [0, 1, 0] [0, 1, 0] .no .full H (by decide) (.inl rfl) (.inr rfl)) ?_
      rw [decide_eq_true rfl]
      repeat (first | (with_reducible first | refine Ju.go ?_ | (refine Hd.go ?_; intro K Q hK hQ; simp only [nod_imm, List.getD_cons_succ, List.getD_cons_zero, nod_ints, nd_no, e_gT, cond_true]; subst hK hQ) | refine Jr.go ?_) | refine sd ?_)
      refine bsI [0, 0] (by simp [aPs, okE_I]) rfl ?_
      repeat (first | (with_reducible first | refine Ju.go ?_ | (refine Hd.go ?_; intro K Q hK hQ; simp only [nod_ints, nd_full]; subst hK hQ) | refine Jr.go ?_) | refine sd ?_)
      refine call_of (c25 [0, 0] [0, 0] .no .full H (by decide) (.inl rfl) (.inr rfl)) ?_
      rw [decide_eq_true rfl]
      repeat (first | (with_reducible first | refine Ju.go ?_ | (refine Hd.go ?_; intro K Q hK hQ; simp only [nod_imm, List.getD_cons_succ, List.getD_cons_zero, Try.underlying3, e_eql, decide_true, e_gT, cond_true, j_one, nod_ints, nd_no]; subst hK hQ) | refine Jr.go ?_) | refine sd ?_)
      refine bsI [130, 110] (by simp [aPs, okE_I]) rfl ?_
      repeat (first | (with_reducible first | refine Ju.go ?_ | (refine Hd.go ?_; intro K Q hK hQ; simp only [nod_ints, nd_full]; subst hK hQ) | refine Jr.go ?_) | refine sd ?_)
      refine call_of (c25 [130, 110] [130, 110] .no .full H (by decide) (.inl rfl) (.inr rfl)) ?_
      rw [decide_eq_true rfl]
      repeat (first | (with_reducible first | refine Ju.go ?_ | (refine Hd.go ?_; intro K Q hK hQ; simp only [nod_imm]; subst hK hQ) | refine Jr.go ?_) | refine sd ?_)
      exact end1 (fzI _)
theorem argF_nd {args : List V} (hn : ∀ a, a ∈ args → a.Nd) (i : Nat) : (argF args i).Nd := by
 unfold argF
 rw [List.getD_eq_getElem?_getD]
 cases h : args[i]? with
 | none => rfl
 | some v => exact hn v (List.mem_of_getElem? h)
def sg0 (w : World) : Sg := ⟨0, fun _ => 0, fun rb => (cellsAt w rb).size⟩
theorem bridge {P : Program} {f : Nat} {args : List V} {ra : Array Value} {w : World} (h : Ret P f args [] (B true) []) (hl : args.length = ra.size) (hn : ∀ a, a ∈ args → a.Nd)
    (hr : ∀ i, Rel (sg0 w) w (argF args i) (ra.getD i undef)) : Calls P f ra w fun e w' => e = .returned (.bool true) ∧ Go.RowKit.Below w.heap.size w w' := by
  have no : ∀ (p : Go.Ab.Pl) (x : Value) (rb : Nat), ¬ OwnB (Go.Ab.pv (argF args) [] p) x rb := by
    intro p x rb ho
    cases p with
    | s i j => exact not_own_Nd (argF_nd hn i) ho
    | h b j => exact not_own_junk ho
  have st : St (sg0 w) w (argF args) ra [] :=
    { frame := hr
      hn := rfl
      heap := fun b blk hb => by simp at hb
      inj := fun b b' blk blk' hb => by simp at hb
      lt := fun b hb => absurd hb (Nat.not_lt_zero _)
      tip0 := fun b blk hb => by simp at hb
      tipz := fun rb hb => by
        show (cellsAt w rb).size = 0
        have : w.heap[rb]? = none := Array.getElem?_eq_none hb
        unfold cellsAt
        rw [this]
        rfl
      own1 := fun p rb ho => absurd ho (no _ _ _)
      own2 := fun p q rb ho => absurd ho (no _ _ _) }
  refine (h.2 (sg0 w) w ra hl st hn).mono fun e w' he => ?_
  obtain ⟨x, σ', rfl, s2, t⟩ := he
  refine ⟨?_, t.os, t.tape, t.output, t.size, fun k hk => (t.keep k hk ?_ ?_).1⟩
  · have := s2.frame 0
    have h2 : Rel σ' w' (B true) x := this
    cases h2
    rfl
  · rintro ⟨b, hb, -⟩
    exact Nat.not_lt_zero _ hb
  · rintro ⟨p, ho⟩
    exact no _ _ _ ho
theorem cells_lt {w : World} {rb off : Nat} {y : Value} (h : w.cell? ⟨rb, off, none⟩ = some y) : off < (sg0 w).tip rb := by
 show off < (cellsAt w rb).size
 unfold World.cell? at h
 unfold cellsAt
 split at h
 ·rename_i c e fz hc
  rw [hc]
  simp only [Option.isSome_none, Bool.false_eq_true, if_false] at h
  exact (Array.getElem?_eq_some_iff.1 h).1
 ·cases h
open Go.ChangeShapes Go.WideShapes Go.ChangeAt Go.RowKit
theorem in_int {H : Type} {enc : TypeId × Value → H} {P : Program} {W : World} {base : Nat} {t : TypeId} {v : Value} {d : DataW H} {p : List MemPlace} (ht : P.underlying t = some (.int .i64))
    (hv : Value.okWide P W .any base t v) (hA : DataW.Trod enc P W 0 (fun _ => true) true t v d p) : ∃ n : Int, Rel (sg0 W) W (I n) v ∧ (Lit.int .i64 n).wf = true := by
  obtain ⟨n, rfl, rfl, rfl, wf⟩ := open_int ht hv hA
  exact ⟨n, .imm _, wf⟩
def CR (W : World) (us : List V) (cs : List Value) : Prop := us.length = cs.length ∧ ∀ (i : Nat) (u : V) (c : Value), us[i]? = some u → cs[i]? = some c → Rel (sg0 W) W u c ∧ c.oneCell' = true
def Opens {H α : Type} (enc : TypeId × Value → H) (W : World) (t : TypeId) (f : α → V) : Prop := ∀ n cs y, DataW.trod enc Try.prog W 0 (fun _ => true) true n t cs = some y → ∃ x : α, CR W (f x).cl cs
theorem cr1 {W : World} {u : V} {c : Value} (h : Rel (sg0 W) W u c) (o : c.oneCell' = true) : CR W [u] [c] := by
 refine ⟨rfl, fun i u' c' hu hc => ?_⟩
 match i with
 | 0 => cases hu; cases hc; exact ⟨h, o⟩
 | i + 1 => simp at hu
theorem cr1' {W : World} {u : V} {c : Value} (h : CR W [u] [c]) : Rel (sg0 W) W u c ∧ c.oneCell' = true := h.2 0 u c rfl rfl
theorem cr_nil {W : World} : CR W [] [] := ⟨rfl, fun i u c h => by simp at h⟩
theorem cr_cons {W : World} {u : V} {us : List V} {c : Value} {cs : List Value} (h : CR W [u] [c]) (k : CR W us cs) : CR W (u :: us) (c :: cs) := by
 refine ⟨by simp [k.1], fun i u' c' hu hc => ?_⟩
 match i with
 | 0 => simp at hu hc; subst hu hc; exact cr1' h
 | i + 1 => simp at hu hc; exact k.2 i u' c' hu hc
theorem opens_int {H : Type} {enc : TypeId × Value → H} {W : World} {t : TypeId} (ht : Try.prog.underlying t = some (.int .i64)) : Opens enc W t I := fun n cs y h => by
 obtain ⟨m, rfl, -, -⟩ := DataW.trod_int ht h
 exact ⟨m, cr1 (.imm _) rfl⟩
theorem cell_spot {w : World} {a : Addr} {y : Value} (h : w.cell? a = some y) : a.spot = none := by
 unfold World.cell? at h
 split at h
 ·cases hs : a.spot with
  | none => rfl
  | some k => rw [hs] at h; simp at h
 ·cases h
theorem add_none (b off k : Nat) : (⟨b, off, none⟩ : Addr).add k = ⟨b, off + k, none⟩ := by unfold Addr.add; split <;> simp_all
theorem flat_atB {α : Type} {f : α → V} {s : Nat} (hs : 0 < s) (hf : ∀ x, (f x).cl.length = s) : ∀ (l : List α) (j : Nat) (c : V), ((l.map f).flatMap V.cl)[j]? = some c → ∃ x, l[j / s]? = some x ∧ (f x).cl[j % s]? = some c
 | [], j, c, h => by simp at h
 | x :: l, j, c, h => by
  rw [List.map_cons, List.flatMap_cons] at h
  by_cases hj : j < s
  ·rw [List.getElem?_append_left (by rw [hf]; exact hj)] at h
   exact ⟨x, by rw [Nat.div_eq_of_lt hj]; rfl, by rw [Nat.mod_eq_of_lt hj]; exact h⟩
  ·rw [List.getElem?_append_right (by rw [hf]; omega), hf] at h
   obtain ⟨y, h1, h2⟩ := flat_atB hs hf l (j - s) c h
   have hj : s ≤ j := by omega
   refine ⟨y, ?_, by rw [Nat.mod_eq_sub_mod hj]; exact h2⟩
   rw [Nat.div_eq_sub_div hs hj]; exact h1
theorem fields {H : Type} {enc : TypeId × Value → H} {W : World} {t : TypeId} {fs : Array Field} {n : Nat} {cs : List Value} {y : DataW H × List MemPlace} (ht : Try.prog.underlying t = some (.struct fs)) (h : DataW.trod enc Try.prog W 0 (fun _ => true) true n t cs = some y) :
    cs.length = Try.prog.cellsOf t ∧ ∀ (i : Nat) (f : Field), fs[i]? = some f → ∃ m z, DataW.trod enc Try.prog W 0 (fun _ => true) true m f.type ((cs.drop f.offset).take (Try.prog.cellsOf f.type)) = some z := by
  obtain ⟨xs, m, -, -, hl, hlen, hf⟩ := DataW.trod_struct ht h
  refine ⟨hl, fun i f hi => ?_⟩
  have h1 := hf i f hi
  have : i < xs.length := by rw [hlen]; exact (Array.getElem?_eq_some_iff.1 hi).1
  exact ⟨m, _, h1.trans (List.getElem?_eq_getElem this)⟩
theorem k3 : Try.prog.cellsOf 3 = 1 := by kernel_rfl
theorem one {H α : Type} {enc : TypeId × Value → H} {W : World} {t : TypeId} {f : α → V} (ho : Opens enc W t f) {c : Value} (hc : ∀ x, (f x).cl = [f x]) (h : ∃ m z, DataW.trod enc Try.prog W 0 (fun _ => true) true m t [c] = some z) : ∃ x, CR W [f x] [c] := by
 obtain ⟨m, z, h⟩ := h
 obtain ⟨x, hx⟩ := ho _ _ _ h
 rw [hc] at hx
 exact ⟨x, hx⟩
theorem fld1 {H : Type} {enc : TypeId × Value → H} {W : World} {t o : Nat} {cs : List Value} {c : Value} (h : ∃ m z, DataW.trod enc Try.prog W 0 (fun _ => true) true m t ((cs.drop o).take (Try.prog.cellsOf t)) = some z) (k : Try.prog.cellsOf t = 1) (hc : cs[o]? = some c) : ∃ m z, DataW.trod enc Try.prog W 0 (fun _ => true) true m t [c] = some z := by
 obtain ⟨hl, rfl⟩ := List.getElem?_eq_some_iff.1 hc
 rw [k, List.drop_eq_getElem_cons hl] at h
 exact h
theorem in_agg {H α : Type} {enc : TypeId × Value → H} {W : World} {base : Nat} {t : TypeId} {v : Value} {d : DataW H} {p : List MemPlace} {fs : Array Field} {g : α → List V} (ht : Try.prog.underlying t = some (.struct fs)) (ho : Opens enc W t (fun x : α => .agg (g x))) (hcl : ∀ x, (V.agg (g x)).cl = g x)
    (hv : Value.okWide Try.prog W .any base t v) (hA : DataW.Trod enc Try.prog W 0 (fun _ => true) true t v d p) : ∃ x : α, Rel (sg0 W) W (.agg (g x)) v := by
  unfold Value.okWide at hv
  rw [ht] at hv
  obtain ⟨cs, rfl, -⟩ := hv
  obtain ⟨fuel, hf⟩ := hA
  obtain ⟨x, hx⟩ := ho _ _ _ hf
  rw [hcl] at hx
  have hs : (Value.agg cs).cells.toList = cs.toList := rfl
  rw [hs] at hx
  refine ⟨x, .agg _ _ hx.1 (fun i y hy => ?_) fun i c hc => ?_⟩
  · have hi : i < (g x).length := by rw [hx.1]; simpa using (Array.getElem?_eq_some_iff.1 hy).1
    exact (hx.2 i _ y (List.getElem?_eq_getElem hi) (by simpa using hy)).2
  · have hi : i < cs.size := by rw [← Array.length_toList, ← hx.1]; exact (List.getElem?_eq_some_iff.1 hc).1
    have := (hx.2 i c cs[i] hc (by simp [hi])).1
    simpa [Array.getD, hi] using this
theorem opens_sliceB {H α : Type} {enc : TypeId × Value → H} {W : World} {t e : TypeId} {f : α → V} {s : Nat} (ht : Try.prog.underlying t = some (.slice e)) (hs : 0 < s) (hc : Try.prog.cellsOf e = s) (hf : ∀ x, (f x).cl.length = s ∧ (f x).Nd) (he : Opens enc W e f) :
    Opens enc W t (fun l : {l : List α // l.length ≤ maxLen} => .arr (l.1.map f) .no) := fun n cs y h => by
  rcases DataW.trod_slice ht h with ⟨rfl, -⟩ | ⟨a, len, cap, elems, rest, m, -, rfl, -, hb, hl, hm, hlen, hel, hre, -⟩
  · exact ⟨⟨[], Nat.zero_le _⟩, cr1 (.arr0 _ _ _ (fun h => by cases h) ⟨fun ad h => (by cases h), fun _ => rfl⟩) rfl⟩
  · rw [hc] at hel hre
    have go : ∀ (k : Nat) (z : DataW H × List MemPlace), (W.cells? 0 (a.add (k * s)) s).bind (DataW.trod enc Try.prog W 0 (fun _ => true) true m e) = some z → ∃ (x : α) (C : List Value), (∀ j, j < s → W.cell? ((a.add (k * s)).add j) = C[j]?) ∧ C.length = s ∧ CR W (f x).cl C := fun k z hz => by
      obtain ⟨C, h1, h2⟩ := Option.bind_eq_some_iff.1 hz
      obtain ⟨-, h3, h4⟩ := World.cells?_some h1
      obtain ⟨x, hx⟩ := he _ _ _ h2
      exact ⟨x, C, h4, h3, hx⟩
    have spot : cap = 0 ∨ a.spot = none := by
      by_cases h0 : cap = 0
      · exact .inl h0
      · refine .inr ?_
        have pick : ∃ z, (W.cells? 0 (a.add (0 * s)) s).bind (DataW.trod enc Try.prog W 0 (fun _ => true) true m e) = some z := by
          by_cases hl0 : 0 < len
          · exact ⟨_, (hel 0 hl0).trans (List.getElem?_eq_getElem (by omega))⟩
          · obtain rfl : len = 0 := by omega
            have := hre rfl
            exact ⟨_, (this.2 0 (by omega)).trans (List.getElem?_eq_getElem (by omega))⟩
        obtain ⟨z, hz⟩ := pick
        obtain ⟨x, C, h1, h2, -⟩ := go 0 z hz
        have h3 := h1 0 hs
        rw [List.getElem?_eq_getElem (by omega)] at h3
        rw [show (a.add (0 * s)).add 0 = a by simp [Addr.add]] at h3
        exact cell_spot h3
    have key : ∀ k, k ≤ len → ∃ l : List α, l.length = k ∧ ∃ C : Nat → List Value, ∀ i, i < k → (C i).length = s ∧ (∀ j, j < s → W.cell? ((a.add (i * s)).add j) = (C i)[j]?) ∧ ∀ x, l[i]? = some x → CR W (f x).cl (C i) := fun k => by
      induction k with
      | zero => exact fun _ => ⟨[], rfl, fun _ => [], fun i hi => absurd hi (Nat.not_lt_zero i)⟩
      | succ k ih =>
        intro hk
        obtain ⟨l, hll, C, hC⟩ := ih (by omega)
        obtain ⟨x, D, d1, d2, d3⟩ := go k _ ((hel k (by omega)).trans (List.getElem?_eq_getElem (by omega)))
        refine ⟨l ++ [x], by simp [hll], fun i => if i = k then D else C i, fun i hi => ?_⟩
        by_cases e : i = k
        · subst e
          simp only [if_true]
          refine ⟨d2, d1, fun x' hx => ?_⟩
          rw [List.getElem?_append_right (by omega), hll, Nat.sub_self] at hx
          cases hx
          exact d3
        · simp only [if_neg e]
          obtain ⟨c1, c2, c3⟩ := hC i (by omega)
          refine ⟨c1, c2, fun x' hx => c3 x' ?_⟩
          rw [List.getElem?_append_left (by omega)] at hx
          exact hx
    obtain ⟨l, hll, C, hC⟩ := key len (Nat.le_refl _)
    refine ⟨⟨l, by rw [hll]; exact Nat.le_trans hl hm⟩, cr1 ?_ rfl⟩
    show Rel _ _ (.arr (l.map f) .no) _
    by_cases h0 : len = 0
    · subst h0
      obtain rfl : l = [] := List.length_eq_zero_iff.1 hll
      refine .arr0 _ _ _ (fun h => by cases h) ⟨fun ad h => ?_, fun h => by cases h⟩
      cases h
      exact spot.symm
    · have hsp := spot.resolve_left (by omega)
      obtain ⟨b, off, sp⟩ := a
      cases hsp
      refine .arr _ .no b off len cap s (fun j => (C (j / s)).getD (j % s) undef) ?_ (by rw [List.length_map, hll]) hl (fun h => by cases h) hs ?_ ?_ ?_
      · intro h
        have := congrArg List.length h
        rw [List.length_map, hll] at this
        exact h0 this
      · intro z hz
        obtain ⟨x, -, rfl⟩ := List.mem_map.1 hz
        exact hf x
      all_goals
        intro j c hj
        obtain ⟨x, hx, hcx⟩ := flat_atB hs (fun x => (hf x).1) l j c hj
        have hjl : j / s < len := by rw [← hll]; exact (List.getElem?_eq_some_iff.1 hx).1
        obtain ⟨c1, c2, c3⟩ := hC (j / s) hjl
        have hmod := Nat.mod_lt j hs
        have hg : (C (j / s))[j % s]? = some ((C (j / s)).getD (j % s) undef) := by rw [List.getD_eq_getElem?_getD, List.getElem?_eq_getElem (by omega)]; rfl
        obtain ⟨r1, r2⟩ := (c3 x hx).2 _ _ _ hcx hg
      · have c4 := c2 (j % s) hmod
        rw [add_none, add_none, Nat.add_assoc, Nat.mul_comm, Nat.div_add_mod, hg] at c4
        exact ⟨cells_lt c4, c4, r2⟩
      · exact r1
theorem mx : maxLen = 9223372036854775807 := rfl
theorem opens3 {H : Type} {enc : TypeId × Value → H} {W : World} : Opens enc W 3 I := opens_int Try.underlying3
theorem opens4 {H : Type} {enc : TypeId × Value → H} {W : World} : Opens enc W 4 (fun b : Bool => boV b) := fun n cs y h => by
 obtain ⟨b, rfl, -⟩ := DataW.trod_bool Try.underlying4 h
 exact ⟨b, cr1 (.imm _) rfl⟩
theorem k4 : Try.prog.cellsOf 4 = 1 := by kernel_rfl
theorem in_one {H α : Type} {enc : TypeId × Value → H} {W : World} {base : Nat} {t e : TypeId} {v : Value} {d : DataW H} {p : List MemPlace} {f : α → V} (ht : Try.prog.underlying t = some (.slice e)) (ho : Opens enc W t f) (hcl : ∀ x, (f x).cl = [f x]) (hv : Value.okWide Try.prog W .any base t v)
    (hA : DataW.Trod enc Try.prog W 0 (fun _ => true) true t v d p) : ∃ x : α, Rel (sg0 W) W (f x) v := by
  obtain ⟨a, len, cap, rfl⟩ := okWide_slice ht hv
  obtain ⟨fuel, hf⟩ := hA
  obtain ⟨l, hl⟩ := ho _ _ _ hf
  rw [hcl] at hl
  exact ⟨l, (cr1' hl).1⟩
def tiL (x : Tim) : List V := [I x.us, I x.le, B x.st, B x.ac, I x.fi, I x.cl]
theorem opens58 {H : Type} {enc : TypeId × Value → H} {W : World} : Opens enc W 58 fun x : Tim => .agg (tiL x) := fun n cs y h => by
 obtain ⟨hl, hf⟩ := fields Try.underlying58 h
 rw [show Try.prog.cellsOf 58 = 6 by kernel_rfl] at hl
 match cs, hl with
 | [c0, c1, c2, c3, c4, c5], _ =>
  obtain ⟨a0, h0⟩ := one (opens3 (enc := enc)) (fun _ => rfl) (fld1 (hf 0 _ rfl) k3 rfl)
  obtain ⟨a1, h1⟩ := one (opens3 (enc := enc)) (fun _ => rfl) (fld1 (hf 1 _ rfl) k3 rfl)
  obtain ⟨a2, h2⟩ := one (opens4 (enc := enc)) (fun _ => rfl) (fld1 (hf 2 _ rfl) k4 rfl)
  obtain ⟨a3, h3⟩ := one (opens4 (enc := enc)) (fun _ => rfl) (fld1 (hf 3 _ rfl) k4 rfl)
  obtain ⟨a4, h4⟩ := one (opens3 (enc := enc)) (fun _ => rfl) (fld1 (hf 4 _ rfl) k3 rfl)
  obtain ⟨a5, h5⟩ := one (opens3 (enc := enc)) (fun _ => rfl) (fld1 (hf 5 _ rfl) k3 rfl)
  exact ⟨⟨a0, a1, a2, a3, a4, a5⟩, (cr_cons h0 (cr_cons h1 (cr_cons h2 (cr_cons h3 (cr_cons h4 (cr_cons h5 cr_nil))))))⟩
theorem in_tim {H : Type} {enc : TypeId × Value → H} {W : World} {base : Nat} {v : Value} {d : DataW H} {p : List MemPlace} (hv : Value.okWide Try.prog W .any base 58 v) (hA : DataW.Trod enc Try.prog W 0 (fun _ => true) true 58 v d p) : ∃ x : Tim, Rel (sg0 W) W (tiV x) v := in_agg (g := tiL) Try.underlying58 opens58 (fun _ => rfl) hv hA
def drL (x : Drl) : List V := [I x.k, I x.b, I x.p]
theorem opens67 {H : Type} {enc : TypeId × Value → H} {W : World} : Opens enc W 67 fun x : Drl => .agg (drL x) := fun n cs y h => by
 obtain ⟨hl, hf⟩ := fields Try.underlying67 h
 rw [show Try.prog.cellsOf 67 = 3 by kernel_rfl] at hl
 match cs, hl with
 | [c0, c1, c2], _ =>
  obtain ⟨a0, h0⟩ := one (opens_int (enc := enc) Try.underlying65) (fun _ => rfl) (fld1 (hf 0 _ rfl) (show Try.prog.cellsOf 65 = 1 by kernel_rfl) rfl)
  obtain ⟨a1, h1⟩ := one (opens3 (enc := enc)) (fun _ => rfl) (fld1 (hf 1 _ rfl) k3 rfl)
  obtain ⟨a2, h2⟩ := one (opens3 (enc := enc)) (fun _ => rfl) (fld1 (hf 2 _ rfl) k3 rfl)
  exact ⟨⟨a0, a1, a2⟩, (cr_cons h0 (cr_cons h1 (cr_cons h2 cr_nil)))⟩
theorem opens59 {H : Type} {enc : TypeId × Value → H} {W : World} : Opens enc W 59 fun l : {l : List Drl // l.length ≤ maxLen} => .arr (l.1.map drV) .no := opens_sliceB (s := 3) Try.underlying59 (by decide) (by kernel_rfl) (fun x => ⟨rfl, rfl⟩) opens67
theorem in_rules {H : Type} {enc : TypeId × Value → H} {W : World} {base : Nat} {v : Value} {d : DataW H} {p : List MemPlace} (hv : Value.okWide Try.prog W .any base 59 v) (hA : DataW.Trod enc Try.prog W 0 (fun _ => true) true 59 v d p) : ∃ l : List Drl, l.length ≤ 9223372036854775807 ∧ Rel (sg0 W) W (.arr (l.map drV) .no) v := by
 obtain ⟨x, hx⟩ := in_one Try.underlying59 (opens59 (enc := enc)) (fun _ => rfl) hv hA
 exact ⟨x.1, x.2, hx⟩
end Go.Proofs.Ytgicpobploinhaa
