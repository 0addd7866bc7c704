/- The machinery of the proof, part 6: an abstract machine over list values, proved sound against the model, and the contracts of the functions that the law reaches. No condition. -/
import Derived.Test.YtgicpobploinhaaP5
import Derived.ChangeSame
import Derived.WalkKit
import Derived.ProofKit
import Derived.OpenShut
import Derived.ShutString
import Derived.ChangeOld
import Derived.Below

set_option linter.unusedVariables false
set_option linter.unusedSimpArgs false
set_option linter.unnecessarySimpa false
set_option maxRecDepth 20000
set_option maxHeartbeats 2000000
namespace Go.Proofs.Ytgicpobploinhaa
open Go Go.Ab Go.Proofs
attribute [local congr] g_bin g_nilS g_nilP g_un g_ext g_bx g_fa g_ld g_st g_ix g_ixA g_slc g_mk g_bs g_bd g_nc g_cv g_len g_lenT g_app g_appB g_cpy g_mm g_call g_callG g_calm g_calmG g_range g_res g_pick g_cond g_loop g_Jv g_eqS g_eqP g_fd g_ixT g_ta g_lkp g_upd g_mkM g_appS g_inv g_callE g_callEG g_invE g_zr g_wr
theorem Ret.weakR {P : Program} {f : Nat} {args args' : List V} {H H' : Hp} {v : V} (h : Ret P f args' H v H') (hl : args.length = args'.length) (hr : ∀ σ w i x, Rel σ w (argF args i) x → Rel σ w (argF args' i) x) (hd : ∀ i, (argF args' i).Nd) (hda : ∀ a, a ∈ args' → a.Nd) : Ret P f args H v H' := by
 refine ⟨h.1, fun σ w ra hlen hst hnd => ?_⟩
 have no : ∀ i j x rb, ¬ OwnB (leafV (argF args' i) j) x rb := fun i j x rb hw => not_own_Nd (hd i) hw
 obtain ⟨s1, o1⟩ := hst.reframe (argF args') ra id (fun i => hr _ _ i _ (hst.frame i)) (fun i j rb ho => (no i j _ rb ho).elim) (fun i i' j j' rb _ _ e => e)
 refine (h.2 σ w ra (hl.symm.trans hlen) s1 hda).mono fun e w' he => ?_
 obtain ⟨x, σ', e1, e2, e3⟩ := he
 exact ⟨x, σ', e1, e2, e3.toLe, e3.os, e3.output, e3.tape, e3.size, fun rb q1 q2 q3 => e3.keep rb q1 q2 (fun q => q3 (o1 rb q)), fun rb q1 q2 => o1 rb (e3.own rb q1 q2), e3.fresh⟩
abbrev tbl : Sou := ⟨[1, 1, 3, 9, 9], 9, [[1], [2], [3], [1, 3]]⟩
abbrev tblF : V := .agg [ints [1, 1, 3, 9, 9] .full, I 9, .arr ([[1], [2], [3], [1, 3]].map fun l => ints l .full) .full]
theorem okE_li (l : List Int) : okE 1 (ints l .full) = True := eq_true ⟨rfl, fun c hc => by
 have : c = ints l .full := by simpa [V.cl, ints] using hc
 subst this; rfl⟩
theorem bs_li4 (z : V) (a b c d : List Int) (K : V → Prop) (k : K (.arr ([a, b, c, d].map fun l => ints l .full) .full)) : aBS 1 4 z [(0, ints a .full), (1, ints b .full), (2, ints c .full), (3, ints d .full)] K := by
 simp only [aBS, aPs, setP, okE_li, and_true]
 exact ⟨⟨by decide, by decide, by decide, by decide⟩, k⟩
theorem bsG {s n : Nat} {z : V} {ps : List (Nat × V)} {K : V → Prop} (L : List V) (h1 : aPs s n ps) (h2 : setP (List.replicate n z) ps = L) (k : K (.arr L .full)) : aBS s n z ps K := ⟨h1, by rw [h2]; exact k⟩
theorem bsI {n : Nat} {z : V} {ps : List (Nat × V)} {K : V → Prop} (l : List Int) (h1 : aPs 1 n ps) (h2 : setP (List.replicate n z) ps = l.map I) (k : K (ints l .full)) : aBS 1 n z ps K := ⟨h1, by rw [h2]; exact k⟩
theorem okE_wd (w : Wd) : okE 5 (wdV w) = True := eq_true ⟨rfl, fun c hc => by
 simp only [V.cl, List.mem_cons, List.not_mem_nil, or_false] at hc
 rcases hc with rfl | rfl | rfl | rfl | rfl <;> rfl⟩
theorem okE_3 (a b c : Int) : okE 3 (.agg [I a, I b, I c]) = True := eq_true ⟨rfl, fun c hc => by
 simp only [V.cl, List.mem_cons, List.not_mem_nil, or_false] at hc
 rcases hc with rfl | rfl | rfl <;> rfl⟩
theorem c48 (H : Hp) : Ret Try.prog 48 [] H tblF H := by
 have z0 : (H ++ [Blk.cells [V.arr [] .full, I 0, .arr [] .full]])[H.length]? = some (.cells [V.arr [] .full, I 0, .arr [] .full]) := tail0 _ _
 have e3 : okE 3 (stV tblF) = True := eq_true ⟨rfl, fun c hc => by
  simp only [stV, V.cl, List.map_cons, List.map_nil, List.mem_cons, List.not_mem_nil, or_false] at hc
  rcases hc with rfl | rfl | rfl <;> rfl⟩
 refine mk48  rfl (Nat.le_refl _) (.inl rfl) ?_
 simp only [vc48, real]
 repeat (first | (with_reducible first | refine Ju.go ?_ | (refine Hd.go ?_; intro K Q hK hQ; simp only [e_bx, okE_agg, lv_cons, List.length_nil, Nat.zero_add, Nat.reduceAdd, all_c, ck_arr, ck_I, all_n, Bool.and_self, and_true, cl_agg, true_and]; subst hK hQ) | refine Jr.go ?_) | refine sd ?_)
 refine bsI [1, 1, 3, 9, 9] (by simp [aPs, okE_I]) rfl ?_
 repeat (first | (with_reducible first | refine Ju.go ?_ | (refine Hd.go ?_; intro K Q hK hQ; simp only [bs1]; subst hK hQ) | refine Jr.go ?_) | refine sd ?_)
 refine bsI [1, 3] (by simp [aPs, okE_I]) rfl ?_
 repeat (first | (with_reducible first | refine Ju.go ?_ | (refine Hd.go ?_; intro K Q hK hQ; simp only [nod_ints, nd_full]; subst hK hQ) | refine Jr.go ?_) | refine sd ?_)
 refine bs_li4 _ [1] [2] [3] [1, 3] _ ?_
 repeat (first | (with_reducible first | refine Ju.go ?_ | (refine Hd.go ?_; intro K Q hK hQ; simp only [nod_ints, nd_full, List.map_cons, List.map_nil, nod_arr, e_bd1, okE_ints, Nat.zero_add, lv_cons, List.length_nil, Nat.reduceAdd, Nat.reduceLeDiff, cl_ints, spl_0, spl_n, okE_I, cl_imm, spl_s, okE_arr, cl_arr, e_bd0, true_and, nod_ptr, own0_ints, e_sc0, stV_agg, nodL_imm, nodL_arr, okE_agg, all_c, ck_ints, ck_I, ck_arr, all_n, Bool.and_self, and_true, cl_agg, e_rA0, dr_0, tk_s, tk_0]; subst hK hQ) | refine Jr.go ?_) | refine sd ?_)
 refine end1A (.keep _ (.agg _ fun c hc => ?_))
 simp only [List.mem_cons, List.not_mem_nil, or_false] at hc
 rcases hc with rfl | rfl | rfl
 ·exact bel_ints _ _ _
 ·exact .imm _
 ·refine .arr _ _ fun c hc => ?_
  have hc' : c ∈ ([[1], [2], [3], [1, 3]] : List (List Int)).map fun l => ints l .full := hc
  obtain ⟨l, -, rfl⟩ := List.mem_map.1 hc'
  exact bel_ints _ _ _
theorem wk_tbl {σ : Sg} {w : World} {x : Value} (h : Rel σ w tblF x) : Rel σ w (souV tbl) x := by
 cases h with
 | agg cs ys hl h0 h1 =>
  refine .agg _ ys hl h0 fun i c hi => ?_
  match i with
  | 0 => cases hi; exact Rel.wkF (h1 0 _ rfl)
  | 1 => cases hi; exact h1 1 _ rfl
  | 2 =>
   cases hi
   exact Rel.wk (h1 2 _ rfl) (.sub ([[1], [2], [3], [1, 3]].map fun l : List Int => l.map I))
  | i + 3 => cases hi
abbrev exPh : List Int := [1, 3, 4, 2, 1, 3, 5, 1]
abbrev exWs : List Wd := [⟨3, 0, 0, false, false⟩, ⟨3, 0, 2, false, false⟩, ⟨3, 0, 0, false, false⟩, ⟨3, 0, 0, false, false⟩]
abbrev exRs : List Rk := [⟨1, 1, 6⟩, ⟨3, 1, 1⟩]
theorem lv35 : lvT Try.prog 10000 35 = some [.int, .int, .int] := by kernel_rfl
theorem gd35 : Try.prog.eqGuardType Try.prog.depth 35 = false := by kernel_rfl
theorem lf35 (x y : Sy3) : lfL [.int, .int, .int] [I x.f, I x.n, I x.t] [I y.f, I y.n, I y.t] = some (decide (x = y)) := by
 cases x; cases y
 simp [lfL, lfE, Bool.decide_and]
theorem eq35 {K : V → Prop} (x y : Sy3) : aEqS Try.prog 35 .eql (syV x) (syV y) K = K (B (decide (x = y))) := by
 refine propext ⟨fun ⟨ls, r, h1, h2, h3, h4⟩ => ?_, fun h => ⟨_, _, lv35, lf35 x y, gd35, h⟩⟩
 obtain rfl : ls = _ := Option.some.inj (h1.symm.trans lv35)
 obtain rfl : r = _ := Option.some.inj (h2.symm.trans (lf35 x y))
 exact h4
theorem eq35n {K : V → Prop} (x y : Sy3) : aEqS Try.prog 35 .neq (syV x) (syV y) K = K (B (!decide (x = y))) := by
 refine propext ⟨fun ⟨ls, r, h1, h2, h3, h4⟩ => ?_, fun h => ⟨_, _, lv35, lf35 x y, gd35, h⟩⟩
 obtain rfl : ls = _ := Option.some.inj (h1.symm.trans lv35)
 obtain rfl : r = _ := Option.some.inj (h2.symm.trans (lf35 x y))
 exact h4
theorem ix_sy (l : List Sy3) (f : Fl) (i : Int) {K : V → Prop} : aIx 3 (.arr (l.map syV) f) (I i) K = (0 ≤ i ∧ i < l.length ∧ K (.cptr (syV (l.getD i.toNat default)))) := e_ixE syV default (fun _ => rfl) l f i
theorem c15 (H : Hp) : Ret Try.prog 15 [] H (B true) H := by
 refine mk15  rfl (Nat.le_refl _) (.inl rfl) ?_
 simp only [vc15, real]
 repeat (first | (with_reducible first | refine Ju.go ?_ | (refine Hd.go ?_; intro K Q hK hQ; simp only []; subst hK hQ) | refine Jr.go ?_) | refine sd ?_)
 refine call_of (c48 _) ?_
 repeat (first | (with_reducible first | refine Ju.go ?_ | (refine Hd.go ?_; intro K Q hK hQ; simp only []; subst hK hQ) | refine Jr.go ?_) | refine sd ?_)
 refine bsI exPh (by simp [aPs, okE_I]) rfl ?_
 repeat (first | (with_reducible first | refine Ju.go ?_ | (refine Hd.go ?_; intro K Q hK hQ; simp only [nod_agg, List.map_cons, List.map_nil, nodL_ints, nd_full, nodL_imm, nodL_arr, nod_ints]; subst hK hQ) | refine Jr.go ?_) | refine sd ?_)
 have c := c16 tbl exPh H ⟨by decide, by decide, by decide⟩ (by decide)
 rw [if_pos (by decide)] at c
 have ey : sylP tbl exPh = [⟨0, 2, 4⟩, ⟨4, 6, 8⟩] := by decide +kernel
 rw [ey] at c
 refine call_of (Ret.weakR c rfl (fun σ w i x h => ?_) (fun i => ?_) (fun a ha => ?_)) ?_
 ·match i with
  | 0 => exact wk_tbl h
  | 1 => exact Rel.wkF h
  | i + 2 => exact .junk _
 ·match i with
  | 0 => rfl
  | 1 => rfl
  | i + 2 => rfl
 ·simp only [List.mem_cons, List.not_mem_nil, or_false] at ha
  rcases ha with rfl | rfl <;> rfl
 ·clear c
  repeat (first | (with_reducible first | refine Ju.go ?_ | (refine Hd.go ?_; intro K Q hK hQ; simp only [List.map_cons, List.map_nil, nod_tup, nod2_imm, e_x20, e_x21, e_bd1, okE_B, Nat.zero_add, lv_cons, List.length_nil, Nat.reduceAdd, Nat.reduceLeDiff, cl_imm, spl_0, spl_n, okE_I, spl_s, e_bd0, true_and]; subst hK hQ) | refine Jr.go ?_) | refine sd ?_)
  refine bsG ([true, false, true, false, false].map boV) (by simp [aPs, okE_B]) rfl ?_
  repeat (first | (with_reducible first | refine Ju.go ?_ | (refine Hd.go ?_; intro K Q hK hQ; simp only [nod_agg, List.map_cons, nodL_imm, List.map_nil, nod_arr, nd_full]; subst hK hQ) | refine Jr.go ?_) | refine sd ?_)
  have c := c22 ⟨true, 1, 0, true, 2⟩ [true, false, true, false, false] H (by decide)
  rw [if_pos (by decide), if_neg (by decide)] at c
  have e1 : mnP ⟨true, 1, 0, true, 2⟩ [true, false, true, false, false] = 2 := by decide +kernel
  have e2 : sdP ⟨true, 1, 0, true, 2⟩ [true, false, true, false, false] = [0] := by decide +kernel
  rw [e1, e2] at c
  refine call_of (Ret.weakR c rfl (fun σ w i x h => ?_) (fun i => ?_) (fun a ha => ?_)) ?_
  ·match i with
   | 0 => exact h
   | 1 => exact Rel.wkF h
   | i + 2 => exact .junk _
  ·match i with
   | 0 => rfl
   | 1 => rfl
   | i + 2 => rfl
  ·simp only [List.mem_cons, List.not_mem_nil, or_false] at ha
   rcases ha with rfl | rfl <;> rfl
  ·clear c
   repeat (first | (with_reducible first | refine Ju.go ?_ | (refine Hd.go ?_; intro K Q hK hQ; simp only [Int.cast_ofNat_Int, nod_tup, List.map_cons, nod2_imm, nod2_ints, nd_no, List.map_nil, e_x30, e_x31, e_x32, e_bd1, okE_I, Nat.zero_add, lv_cons, List.length_nil, Nat.reduceAdd, Nat.reduceLeDiff, cl_imm, spl_0, spl_n, e_bd0, true_and, spl_s, nod_agg, nodL_imm]; subst hK hQ) | refine Jr.go ?_) | refine sd ?_)
   refine bsG (exWs.map wdV) (by simp only [aPs]; exact ⟨by decide, (okE_wd ⟨3, 0, 0, false, false⟩).symm ▸ trivial, by decide, (okE_wd ⟨3, 0, 2, false, false⟩).symm ▸ trivial, by decide, (okE_wd ⟨3, 0, 0, false, false⟩).symm ▸ trivial, by decide, (okE_wd ⟨3, 0, 0, false, false⟩).symm ▸ trivial, trivial⟩) rfl ?_
   repeat (first | (with_reducible first | refine Ju.go ?_ | (refine Hd.go ?_; intro K Q hK hQ; simp only [e_bd1, okE_I, Nat.zero_add, lv_cons, List.length_nil, Nat.reduceAdd, Nat.reduceLeDiff, cl_imm, spl_0, spl_n, spl_s, e_bd0, true_and, nod_agg, List.map_cons, nodL_imm, List.map_nil]; subst hK hQ) | refine Jr.go ?_) | refine sd ?_)
   refine bsG (exRs.map rkV) (by simp only [aPs, okE_3]; decide) rfl ?_
   repeat (first | (with_reducible first | refine Ju.go ?_ | (refine Hd.go ?_; intro K Q hK hQ; simp only [List.map_cons, List.map_nil, nod_arr, nd_full]; subst hK hQ) | refine Jr.go ?_) | refine sd ?_)
   have c := c26 exWs exRs H (by decide) (by decide) (by decide)
   rw [if_pos (by decide +kernel)] at c
   have e1 : brk (srF exWs exRs) (exWs.length - 1) s0 = [0, 1, 0] := by decide +kernel
   have e2 : (bst (srF exWs exRs) s0).1 = [0, 0] := by decide +kernel
   rw [e1, e2] at c
   refine call_of (Ret.weakR c rfl (fun σ w i x h => ?_) (fun i => ?_) (fun a ha => ?_)) ?_
   ·match i with
    | 0 => exact Rel.wkF h
    | 1 => exact Rel.wkF h
    | i + 2 => exact .junk _
   ·match i with
    | 0 => rfl
    | 1 => rfl
    | i + 2 => rfl
   ·simp only [List.mem_cons, List.not_mem_nil, or_false] at ha
    rcases ha with rfl | rfl <;> rfl
   ·clear c
    repeat (first | (with_reducible first | refine Ju.go ?_ | (refine Hd.go ?_; intro K Q hK hQ; simp only [nod_tup, List.map_cons, nod2_ints, nd_no, nod2_imm, List.map_nil, e_x30, e_x31, e_x32, List.getD_cons_zero, List.getD_cons_succ, e_bd1, okE_I, Nat.zero_add, lv_cons, List.length_nil, Nat.reduceAdd, Nat.reduceLeDiff, cl_imm, spl_0, spl_n, spl_s, okE_B, e_bd0, true_and, nod_agg, nodL_imm]; subst hK hQ) | refine Jr.go ?_) | refine sd ?_)
    refine bsG (([⟨1, 0, 150⟩, ⟨4, 0, 200⟩] : List Drl).map drV) (by simp only [aPs, okE_3]; decide) rfl ?_
    repeat (first | (with_reducible first | refine Ju.go ?_ | (refine Hd.go ?_; intro K Q hK hQ; simp only [nod_agg, List.map_cons, nodL_imm, List.map_nil, nod_arr, nd_full]; subst hK hQ) | refine Jr.go ?_) | refine sd ?_)
    have c := c31 ⟨100, 40, true, false, 0, 0⟩ [⟨1, 0, 150⟩, ⟨4, 0, 200⟩] H (by decide)
    rw [if_pos (by decide +kernel)] at c
    have e1 : durP ⟨100, 40, true, false, 0, 0⟩ [⟨1, 0, 150⟩, ⟨4, 0, 200⟩] = 130 := by decide +kernel
    rw [e1] at c
    refine call_of (Ret.weakR c rfl (fun σ w i x h => ?_) (fun i => ?_) (fun a ha => ?_)) ?_
    ·match i with
     | 0 => exact h
     | 1 => exact Rel.wkF h
     | i + 2 => exact .junk _
    ·match i with
     | 0 => rfl
     | 1 => rfl
     | i + 2 => rfl
    ·simp only [List.mem_cons, List.not_mem_nil, or_false] at ha
     rcases ha with rfl | rfl <;> rfl
    ·clear c
     repeat (first | (with_reducible first | refine Ju.go ?_ | (refine Hd.go ?_; intro K Q hK hQ; simp only [nod_tup, List.map_cons, nod2_imm, List.map_nil, e_x20, e_x21]; subst hK hQ) | refine Jr.go ?_) | refine sd ?_)
     refine bsI [100, 100] (by simp [aPs, okE_I]) rfl ?_
     repeat (first | (with_reducible first | refine Ju.go ?_ | (refine Hd.go ?_; intro K Q hK hQ; simp only []; subst hK hQ) | refine Jr.go ?_) | refine sd ?_)
     refine bsI [0, 0] (by simp [aPs, okE_I]) rfl ?_
     repeat (first | (with_reducible first | refine Ju.go ?_ | (refine Hd.go ?_; intro K Q hK hQ; simp only []; subst hK hQ) | refine Jr.go ?_) | refine sd ?_)
     refine bsI [1, 3] (by simp [aPs, okE_I]) rfl ?_
     repeat (first | (with_reducible first | refine Ju.go ?_ | (refine Hd.go ?_; intro K Q hK hQ; simp only [nod_ints, nd_full]; subst hK hQ) | refine Jr.go ?_) | refine sd ?_)
     have c := c35 [100, 100] [0, 0] [1, 3] 240 H (by decide) (by decide) (by decide)
     have e1 : strV [100, 100] [0, 0] [1, 3] 240 = .tup [ints [130, 110] .no, I 0] := by
      unfold strV
      rw [if_pos (by decide +kernel)]
      have : strP [100, 100] [0, 0] [1, 3] 240 = some [130, 110] := by decide +kernel
      rw [this]
     rw [e1] at c
     refine call_of (Ret.weakR c rfl (fun σ w i x h => ?_) (fun i => ?_) (fun a ha => ?_)) ?_
     ·match i with
      | 0 => exact Rel.wkF h
      | 1 => exact Rel.wkF h
      | 2 => exact Rel.wkF h
      | 3 => exact h
      | i + 4 => exact .junk _
     ·match i with
      | 0 => rfl
      | 1 => rfl
      | 2 => rfl
      | 3 => rfl
      | i + 4 => rfl
     ·simp only [List.mem_cons, List.not_mem_nil, or_false] at ha
      rcases ha with rfl | rfl | rfl | rfl <;> rfl
     ·clear c
      have n2 : ∀ xs : List V, (V.arr xs .no).nod2 = .arr xs .no := fun _ => rfl
      have n1 : ∀ xs : List V, (V.arr xs .no).nod = .arr xs .no := fun _ => rfl
      have g0 : ([syV ⟨0, 2, 4⟩, syV ⟨4, 6, 8⟩] : List V).getD (Int.toNat 0) .junk = syV ⟨0, 2, 4⟩ := rfl
      have g1 : ([syV ⟨0, 2, 4⟩, syV ⟨4, 6, 8⟩] : List V).getD (Int.toNat 1) .junk = syV ⟨4, 6, 8⟩ := rfl
      have g2 : (syV ⟨0, 2, 4⟩).cl.length = 3 := rfl
      have g3 : (syV ⟨4, 6, 8⟩).cl.length = 3 := rfl
      repeat (first | (with_reducible first | refine Ju.go ?_ | (refine Hd.go ?_; intro K Q hK hQ; simp only [nod_tup, List.map_cons, nod2_ints, nd_no, nod2_imm, List.map_nil, e_x20, e_x21, n2, List.getD_cons_zero, List.getD_cons_succ, nod_imm, e_neq, decide_true, Bool.not_true, e_gF, cond_false, j_one, n1, e_lenA, lv_cons, List.length_nil, Nat.zero_add, Nat.reduceAdd, Int.cast_ofNat_Int, Try.underlying3, e_cond, Bool.false_eq_true, if_false, nod_cptr, e_bd1, okE_I, Nat.reduceLeDiff, cl_imm, spl_0, spl_n, spl_s, e_bd0, true_and, nod_agg, nodL_imm]; subst hK hQ) | refine Jr.go ?_) | refine sd ?_)
      refine Eq.mpr (eq35 ⟨0, 2, 4⟩ ⟨0, 2, 4⟩) ?_
      repeat (first | (with_reducible first | refine Ju.go ?_ | (refine Hd.go ?_; intro K Q hK hQ; simp only [decide_true, nod_imm, List.getD_cons_zero, nod_arr, nd_no, e_bd1, okE_I, Nat.zero_add, lv_cons, List.length_nil, Nat.reduceAdd, Nat.reduceLeDiff, cl_imm, spl_0, spl_n, spl_s, e_bd0, nod_agg, List.map_cons, nodL_imm, List.map_nil, true_and, e_gT, cond_true, nod_cptr]; subst hK hQ) | refine Jr.go ?_) | refine sd ?_)
      refine Eq.mpr (eq35 ⟨4, 6, 8⟩ ⟨4, 6, 8⟩) ?_
      repeat (first | (with_reducible first | refine Ju.go ?_ | (refine Hd.go ?_; intro K Q hK hQ; simp only [decide_true, nod_imm, List.getD_cons_succ, List.getD_cons_zero, Try.underlying3, e_eql, e_gT, cond_true, j_one, nod_ints, nd_no, bs1, nd_full]; subst hK hQ) | refine Jr.go ?_) | refine sd ?_)
      refine call_of (c25 [0] [0] .no .full H (by decide) (.inl rfl) (.inr rfl)) ?_
      rw [decide_eq_true rfl]
      repeat (first | (with_reducible first | refine Ju.go ?_ | (refine Hd.go ?_; intro K Q hK hQ; simp only [nod_imm, List.getD_cons_succ, List.getD_cons_zero, nod_ints, nd_no, e_gT, cond_true]; subst hK hQ) | refine Jr.go ?_) | refine sd ?_)
      refine bsI [0, 1, 0] (by simp [aPs, okE_I]) rfl ?_
      repeat (first | (with_reducible first | refine Ju.go ?_ | (refine Hd.go ?_; intro K Q hK hQ; simp only [nod_ints, nd_full]; subst hK hQ) | refine Jr.go ?_) | refine sd ?_)
      refine call_of (c25 [0, 1, 0] [0, 1, 0] .no .full H (by decide) (.inl rfl) (.inr rfl)) ?_
      rw [decide_eq_true rfl]
      repeat (first | (with_reducible first | refine Ju.go ?_ | (refine Hd.go ?_; intro K Q hK hQ; simp only [nod_imm, List.getD_cons_succ, List.getD_cons_zero, nod_ints, nd_no, e_gT, cond_true]; subst hK hQ) | refine Jr.go ?_) | refine sd ?_)
      refine bsI [0, 0] (by simp [aPs, okE_I]) rfl ?_
      repeat (first | (with_reducible first | refine Ju.go ?_ | (refine Hd.go ?_; intro K Q hK hQ; simp only [nod_ints, nd_full]; subst hK hQ) | refine Jr.go ?_) | refine sd ?_)
      refine call_of (c25 [0, 0] [0, 0] .no .full H (by decide) (.inl rfl) (.inr rfl)) ?_
      rw [decide_eq_true rfl]
      repeat (first | (with_reducible first | refine Ju.go ?_ | (refine Hd.go ?_; intro K Q hK hQ; simp only [nod_imm, List.getD_cons_succ, List.getD_cons_zero, Try.underlying3, e_eql, decide_true, e_gT, cond_true, j_one, nod_ints, nd_no]; subst hK hQ) | refine Jr.go ?_) | refine sd ?_)
      refine bsI [130, 110] (by simp [aPs, okE_I]) rfl ?_
      repeat (first | (with_reducible first | refine Ju.go ?_ | (refine Hd.go ?_; intro K Q hK hQ; simp only [nod_ints, nd_full]; subst hK hQ) | refine Jr.go ?_) | refine sd ?_)
      refine call_of (c25 [130, 110] [130, 110] .no .full H (by decide) (.inl rfl) (.inr rfl)) ?_
      rw [decide_eq_true rfl]
      repeat (first | (with_reducible first | refine Ju.go ?_ | (refine Hd.go ?_; intro K Q hK hQ; simp only [nod_imm]; subst hK hQ) | refine Jr.go ?_) | refine sd ?_)
      exact end1 (fzI _)
theorem argF_nd {args : List V} (hn : ∀ a, a ∈ args → a.Nd) (i : Nat) : (argF args i).Nd := by
 unfold argF
 rw [List.getD_eq_getElem?_getD]
 cases h : args[i]? with
 | none => rfl
 | some v => exact hn v (List.mem_of_getElem? h)
def sg0 (w : World) : Sg := ⟨0, fun _ => 0, fun rb => (cellsAt w rb).size⟩
theorem bridge {P : Program} {f : Nat} {args : List V} {ra : Array Value} {w : World} (h : Ret P f args [] (B true) []) (hl : args.length = ra.size) (hn : ∀ a, a ∈ args → a.Nd)
    (hr : ∀ i, Rel (sg0 w) w (argF args i) (ra.getD i undef)) : Calls P f ra w fun e w' => e = .returned (.bool true) ∧ Go.RowKit.Below w.heap.size w w' := by
  have no : ∀ (p : Go.Ab.Pl) (x : Value) (rb : Nat), ¬ OwnB (Go.Ab.pv (argF args) [] p) x rb := by
    intro p x rb ho
    cases p with
    | s i j => exact not_own_Nd (argF_nd hn i) ho
    | h b j => exact not_own_junk ho
  have st : St (sg0 w) w (argF args) ra [] :=
    { frame := hr
      hn := rfl
      heap := fun b blk hb => by simp at hb
      inj := fun b b' blk blk' hb => by simp at hb
      lt := fun b hb => absurd hb (Nat.not_lt_zero _)
      tip0 := fun b blk hb => by simp at hb
      tipz := fun rb hb => by
        show (cellsAt w rb).size = 0
        have : w.heap[rb]? = none := Array.getElem?_eq_none hb
        unfold cellsAt
        rw [this]
        rfl
      own1 := fun p rb ho => absurd ho (no _ _ _)
      own2 := fun p q rb ho => absurd ho (no _ _ _) }
  refine (h.2 (sg0 w) w ra hl st hn).mono fun e w' he => ?_
  obtain ⟨x, σ', rfl, s2, t⟩ := he
  refine ⟨?_, t.os, t.tape, t.output, t.size, fun k hk => (t.keep k hk ?_ ?_).1⟩
  · have := s2.frame 0
    have h2 : Rel σ' w' (B true) x := this
    cases h2
    rfl
  · rintro ⟨b, hb, -⟩
    exact Nat.not_lt_zero _ hb
  · rintro ⟨p, ho⟩
    exact no _ _ _ ho
theorem cells_lt {w : World} {rb off : Nat} {y : Value} (h : w.cell? ⟨rb, off, none⟩ = some y) : off < (sg0 w).tip rb := by
 show off < (cellsAt w rb).size
 unfold World.cell? at h
 unfold cellsAt
 split at h
 ·rename_i c e fz hc
  rw [hc]
  simp only [Option.isSome_none, Bool.false_eq_true, if_false] at h
  exact (Array.getElem?_eq_some_iff.1 h).1
 ·cases h
open Go.ChangeShapes Go.WideShapes Go.ChangeAt Go.RowKit
def CR (W : World) (us : List V) (cs : List Value) : Prop := us.length = cs.length ∧ ∀ (i : Nat) (u : V) (c : Value), us[i]? = some u → cs[i]? = some c → Rel (sg0 W) W u c ∧ c.oneCell' = true
def Opens {H α : Type} (enc : TypeId × Value → H) (W : World) (t : TypeId) (f : α → V) : Prop := ∀ n cs y, DataW.trod enc Try.prog W 0 (fun _ => true) true n t cs = some y → ∃ x : α, CR W (f x).cl cs
theorem cr1 {W : World} {u : V} {c : Value} (h : Rel (sg0 W) W u c) (o : c.oneCell' = true) : CR W [u] [c] := by
 refine ⟨rfl, fun i u' c' hu hc => ?_⟩
 match i with
 | 0 => cases hu; cases hc; exact ⟨h, o⟩
 | i + 1 => simp at hu
theorem cr1' {W : World} {u : V} {c : Value} (h : CR W [u] [c]) : Rel (sg0 W) W u c ∧ c.oneCell' = true := h.2 0 u c rfl rfl
theorem cr_nil {W : World} : CR W [] [] := ⟨rfl, fun i u c h => by simp at h⟩
theorem cr_cons {W : World} {u : V} {us : List V} {c : Value} {cs : List Value} (h : CR W [u] [c]) (k : CR W us cs) : CR W (u :: us) (c :: cs) := by
 refine ⟨by simp [k.1], fun i u' c' hu hc => ?_⟩
 match i with
 | 0 => simp at hu hc; subst hu hc; exact cr1' h
 | i + 1 => simp at hu hc; exact k.2 i u' c' hu hc
theorem opens_int {H : Type} {enc : TypeId × Value → H} {W : World} {t : TypeId} (ht : Try.prog.underlying t = some (.int .i64)) : Opens enc W t I := fun n cs y h => by
 obtain ⟨m, rfl, -, -⟩ := DataW.trod_int ht h
 exact ⟨m, cr1 (.imm _) rfl⟩
theorem cell_spot {w : World} {a : Addr} {y : Value} (h : w.cell? a = some y) : a.spot = none := by
 unfold World.cell? at h
 split at h
 ·cases hs : a.spot with
  | none => rfl
  | some k => rw [hs] at h; simp at h
 ·cases h
theorem add_none (b off k : Nat) : (⟨b, off, none⟩ : Addr).add k = ⟨b, off + k, none⟩ := by unfold Addr.add; split <;> simp_all
theorem flat_atB {α : Type} {f : α → V} {s : Nat} (hs : 0 < s) (hf : ∀ x, (f x).cl.length = s) : ∀ (l : List α) (j : Nat) (c : V), ((l.map f).flatMap V.cl)[j]? = some c → ∃ x, l[j / s]? = some x ∧ (f x).cl[j % s]? = some c
 | [], j, c, h => by simp at h
 | x :: l, j, c, h => by
  rw [List.map_cons, List.flatMap_cons] at h
  by_cases hj : j < s
  ·rw [List.getElem?_append_left (by rw [hf]; exact hj)] at h
   exact ⟨x, by rw [Nat.div_eq_of_lt hj]; rfl, by rw [Nat.mod_eq_of_lt hj]; exact h⟩
  ·rw [List.getElem?_append_right (by rw [hf]; omega), hf] at h
   obtain ⟨y, h1, h2⟩ := flat_atB hs hf l (j - s) c h
   have hj : s ≤ j := by omega
   refine ⟨y, ?_, by rw [Nat.mod_eq_sub_mod hj]; exact h2⟩
   rw [Nat.div_eq_sub_div hs hj]; exact h1
theorem fields {H : Type} {enc : TypeId × Value → H} {W : World} {t : TypeId} {fs : Array Field} {n : Nat} {cs : List Value} {y : DataW H × List MemPlace} (ht : Try.prog.underlying t = some (.struct fs)) (h : DataW.trod enc Try.prog W 0 (fun _ => true) true n t cs = some y) :
    cs.length = Try.prog.cellsOf t ∧ ∀ (i : Nat) (f : Field), fs[i]? = some f → ∃ m z, DataW.trod enc Try.prog W 0 (fun _ => true) true m f.type ((cs.drop f.offset).take (Try.prog.cellsOf f.type)) = some z := by
  obtain ⟨xs, m, -, -, hl, hlen, hf⟩ := DataW.trod_struct ht h
  refine ⟨hl, fun i f hi => ?_⟩
  have h1 := hf i f hi
  have : i < xs.length := by rw [hlen]; exact (Array.getElem?_eq_some_iff.1 hi).1
  exact ⟨m, _, h1.trans (List.getElem?_eq_getElem this)⟩
theorem k3 : Try.prog.cellsOf 3 = 1 := by kernel_rfl
theorem one {H α : Type} {enc : TypeId × Value → H} {W : World} {t : TypeId} {f : α → V} (ho : Opens enc W t f) {c : Value} (hc : ∀ x, (f x).cl = [f x]) (h : ∃ m z, DataW.trod enc Try.prog W 0 (fun _ => true) true m t [c] = some z) : ∃ x, CR W [f x] [c] := by
 obtain ⟨m, z, h⟩ := h
 obtain ⟨x, hx⟩ := ho _ _ _ h
 rw [hc] at hx
 exact ⟨x, hx⟩
theorem fld1 {H : Type} {enc : TypeId × Value → H} {W : World} {t o : Nat} {cs : List Value} {c : Value} (h : ∃ m z, DataW.trod enc Try.prog W 0 (fun _ => true) true m t ((cs.drop o).take (Try.prog.cellsOf t)) = some z) (k : Try.prog.cellsOf t = 1) (hc : cs[o]? = some c) : ∃ m z, DataW.trod enc Try.prog W 0 (fun _ => true) true m t [c] = some z := by
 obtain ⟨hl, rfl⟩ := List.getElem?_eq_some_iff.1 hc
 rw [k, List.drop_eq_getElem_cons hl] at h
 exact h
theorem in_agg {H α : Type} {enc : TypeId × Value → H} {W : World} {base : Nat} {t : TypeId} {v : Value} {d : DataW H} {p : List MemPlace} {fs : Array Field} {g : α → List V} (ht : Try.prog.underlying t = some (.struct fs)) (ho : Opens enc W t (fun x : α => .agg (g x))) (hcl : ∀ x, (V.agg (g x)).cl = g x)
    (hv : Value.okWide Try.prog W .any base t v) (hA : DataW.Trod enc Try.prog W 0 (fun _ => true) true t v d p) : ∃ x : α, Rel (sg0 W) W (.agg (g x)) v := by
  unfold Value.okWide at hv
  rw [ht] at hv
  obtain ⟨cs, rfl, -⟩ := hv
  obtain ⟨fuel, hf⟩ := hA
  obtain ⟨x, hx⟩ := ho _ _ _ hf
  rw [hcl] at hx
  have hs : (Value.agg cs).cells.toList = cs.toList := rfl
  rw [hs] at hx
  refine ⟨x, .agg _ _ hx.1 (fun i y hy => ?_) fun i c hc => ?_⟩
  · have hi : i < (g x).length := by rw [hx.1]; simpa using (Array.getElem?_eq_some_iff.1 hy).1
    exact (hx.2 i _ y (List.getElem?_eq_getElem hi) (by simpa using hy)).2
  · have hi : i < cs.size := by rw [← Array.length_toList, ← hx.1]; exact (List.getElem?_eq_some_iff.1 hc).1
    have := (hx.2 i c cs[i] hc (by simp [hi])).1
    simpa [Array.getD, hi] using this
theorem opens_sliceB {H α : Type} {enc : TypeId × Value → H} {W : World} {t e : TypeId} {f : α → V} {s : Nat} (ht : Try.prog.underlying t = some (.slice e)) (hs : 0 < s) (hc : Try.prog.cellsOf e = s) (hf : ∀ x, (f x).cl.length = s ∧ (f x).Nd) (he : Opens enc W e f) :
    Opens enc W t (fun l : {l : List α // l.length ≤ maxLen} => .arr (l.1.map f) .no) := fun n cs y h => by
  rcases DataW.trod_slice ht h with ⟨rfl, -⟩ | ⟨a, len, cap, elems, rest, m, -, rfl, -, hb, hl, hm, hlen, hel, hre, -⟩
  · exact ⟨⟨[], Nat.zero_le _⟩, cr1 (.arr0 _ _ _ (fun h => by cases h) ⟨fun ad h => (by cases h), fun _ => rfl⟩) rfl⟩
  · rw [hc] at hel hre
    have go : ∀ (k : Nat) (z : DataW H × List MemPlace), (W.cells? 0 (a.add (k * s)) s).bind (DataW.trod enc Try.prog W 0 (fun _ => true) true m e) = some z → ∃ (x : α) (C : List Value), (∀ j, j < s → W.cell? ((a.add (k * s)).add j) = C[j]?) ∧ C.length = s ∧ CR W (f x).cl C := fun k z hz => by
      obtain ⟨C, h1, h2⟩ := Option.bind_eq_some_iff.1 hz
      obtain ⟨-, h3, h4⟩ := World.cells?_some h1
      obtain ⟨x, hx⟩ := he _ _ _ h2
      exact ⟨x, C, h4, h3, hx⟩
    have spot : cap = 0 ∨ a.spot = none := by
      by_cases h0 : cap = 0
      · exact .inl h0
      · refine .inr ?_
        have pick : ∃ z, (W.cells? 0 (a.add (0 * s)) s).bind (DataW.trod enc Try.prog W 0 (fun _ => true) true m e) = some z := by
          by_cases hl0 : 0 < len
          · exact ⟨_, (hel 0 hl0).trans (List.getElem?_eq_getElem (by omega))⟩
          · obtain rfl : len = 0 := by omega
            have := hre rfl
            exact ⟨_, (this.2 0 (by omega)).trans (List.getElem?_eq_getElem (by omega))⟩
        obtain ⟨z, hz⟩ := pick
        obtain ⟨x, C, h1, h2, -⟩ := go 0 z hz
        have h3 := h1 0 hs
        rw [List.getElem?_eq_getElem (by omega)] at h3
        rw [show (a.add (0 * s)).add 0 = a by simp [Addr.add]] at h3
        exact cell_spot h3
    have key : ∀ k, k ≤ len → ∃ l : List α, l.length = k ∧ ∃ C : Nat → List Value, ∀ i, i < k → (C i).length = s ∧ (∀ j, j < s → W.cell? ((a.add (i * s)).add j) = (C i)[j]?) ∧ ∀ x, l[i]? = some x → CR W (f x).cl (C i) := fun k => by
      induction k with
      | zero => exact fun _ => ⟨[], rfl, fun _ => [], fun i hi => absurd hi (Nat.not_lt_zero i)⟩
      | succ k ih =>
        intro hk
        obtain ⟨l, hll, C, hC⟩ := ih (by omega)
        obtain ⟨x, D, d1, d2, d3⟩ := go k _ ((hel k (by omega)).trans (List.getElem?_eq_getElem (by omega)))
        refine ⟨l ++ [x], by simp [hll], fun i => if i = k then D else C i, fun i hi => ?_⟩
        by_cases e : i = k
        · subst e
          simp only [if_true]
          refine ⟨d2, d1, fun x' hx => ?_⟩
          rw [List.getElem?_append_right (by omega), hll, Nat.sub_self] at hx
          cases hx
          exact d3
        · simp only [if_neg e]
          obtain ⟨c1, c2, c3⟩ := hC i (by omega)
          refine ⟨c1, c2, fun x' hx => c3 x' ?_⟩
          rw [List.getElem?_append_left (by omega)] at hx
          exact hx
    obtain ⟨l, hll, C, hC⟩ := key len (Nat.le_refl _)
    refine ⟨⟨l, by rw [hll]; exact Nat.le_trans hl hm⟩, cr1 ?_ rfl⟩
    show Rel _ _ (.arr (l.map f) .no) _
    by_cases h0 : len = 0
    · subst h0
      obtain rfl : l = [] := List.length_eq_zero_iff.1 hll
      refine .arr0 _ _ _ (fun h => by cases h) ⟨fun ad h => ?_, fun h => by cases h⟩
      cases h
      exact spot.symm
    · have hsp := spot.resolve_left (by omega)
      obtain ⟨b, off, sp⟩ := a
      cases hsp
      refine .arr _ .no b off len cap s (fun j => (C (j / s)).getD (j % s) undef) ?_ (by rw [List.length_map, hll]) hl (fun h => by cases h) hs ?_ ?_ ?_
      · intro h
        have := congrArg List.length h
        rw [List.length_map, hll] at this
        exact h0 this
      · intro z hz
        obtain ⟨x, -, rfl⟩ := List.mem_map.1 hz
        exact hf x
      all_goals
        intro j c hj
        obtain ⟨x, hx, hcx⟩ := flat_atB hs (fun x => (hf x).1) l j c hj
        have hjl : j / s < len := by rw [← hll]; exact (List.getElem?_eq_some_iff.1 hx).1
        obtain ⟨c1, c2, c3⟩ := hC (j / s) hjl
        have hmod := Nat.mod_lt j hs
        have hg : (C (j / s))[j % s]? = some ((C (j / s)).getD (j % s) undef) := by rw [List.getD_eq_getElem?_getD, List.getElem?_eq_getElem (by omega)]; rfl
        obtain ⟨r1, r2⟩ := (c3 x hx).2 _ _ _ hcx hg
      · have c4 := c2 (j % s) hmod
        rw [add_none, add_none, Nat.add_assoc, Nat.mul_comm, Nat.div_add_mod, hg] at c4
        exact ⟨cells_lt c4, c4, r2⟩
      · exact r1
theorem opens_valB {H α : Type} {enc : TypeId × Value → H} {W : World} {t : TypeId} {f : α → V} {p : α → Prop} (h : Opens enc W t fun l : {l : List {x : α // p x} // l.length ≤ maxLen} => .arr (l.1.map fun x => f x.1) .no) : Opens enc W t fun l : {l : List α // l.length ≤ maxLen ∧ ∀ x, x ∈ l → p x} => .arr (l.1.map f) .no := fun n cs y k => by
 obtain ⟨⟨l, hn⟩, hl⟩ := h n cs y k
 refine ⟨⟨l.map Subtype.val, by rw [List.length_map]; exact hn, fun x hx => ?_⟩, ?_⟩
 ·obtain ⟨z, -, rfl⟩ := List.mem_map.1 hx
  exact z.2
 ·simp only [List.map_map]
  exact hl
theorem mx : maxLen = 9223372036854775807 := rfl
theorem opens3 {H : Type} {enc : TypeId × Value → H} {W : World} : Opens enc W 3 I := opens_int Try.underlying3
theorem k4 : Try.prog.cellsOf 4 = 1 := by kernel_rfl
theorem opens22 {H : Type} {enc : TypeId × Value → H} {W : World} : Opens enc W 22 fun l : {l : List Int // l.length ≤ maxLen} => liV l.1 := opens_sliceB (s := 1) Try.underlying22 (by decide) (by kernel_rfl) (fun x => ⟨rfl, rfl⟩) opens3
theorem in_one {H α : Type} {enc : TypeId × Value → H} {W : World} {base : Nat} {t e : TypeId} {v : Value} {d : DataW H} {p : List MemPlace} {f : α → V} (ht : Try.prog.underlying t = some (.slice e)) (ho : Opens enc W t f) (hcl : ∀ x, (f x).cl = [f x]) (hv : Value.okWide Try.prog W .any base t v)
    (hA : DataW.Trod enc Try.prog W 0 (fun _ => true) true t v d p) : ∃ x : α, Rel (sg0 W) W (f x) v := by
  obtain ⟨a, len, cap, rfl⟩ := okWide_slice ht hv
  obtain ⟨fuel, hf⟩ := hA
  obtain ⟨l, hl⟩ := ho _ _ _ hf
  rw [hcl] at hl
  exact ⟨l, (cr1' hl).1⟩
theorem in_is {H : Type} {enc : TypeId × Value → H} {W : World} {base : Nat} {v : Value} {d : DataW H} {p : List MemPlace} (hv : Value.okWide Try.prog W .any base 22 v) (hA : DataW.Trod enc Try.prog W 0 (fun _ => true) true 22 v d p) : ∃ l : List Int, l.length ≤ 9223372036854775807 ∧ Rel (sg0 W) W (ints l .no) v := by
 obtain ⟨x, hx⟩ := in_one Try.underlying22 (opens22 (enc := enc)) (fun _ => rfl) hv hA
 exact ⟨x.1, x.2, hx⟩
theorem opens23 {H : Type} {enc : TypeId × Value → H} {W : World} : Opens enc W 23 fun l : {l : List (List Int) // l.length ≤ maxLen ∧ ∀ o, o ∈ l → o.length ≤ maxLen} => .arr (l.1.map liV) .no := opens_valB (opens_sliceB (s := 1) Try.underlying23 (by decide) (by kernel_rfl) (fun x => ⟨rfl, rfl⟩) opens22)
def souL (s : Sou) : List V := [ints s.so .no, I s.pk, .arr (s.on.map liV) .no]
theorem opens25 {H : Type} {enc : TypeId × Value → H} {W : World} : Opens enc W 25 fun s : {s : Sou // SmS s} => .agg (souL s.1) := fun n cs y h => by
 obtain ⟨hl, hf⟩ := fields Try.underlying25 h
 rw [show Try.prog.cellsOf 25 = 3 by kernel_rfl] at hl
 match cs, hl with
 | [c0, c1, c2], _ =>
  obtain ⟨a, ha⟩ := one (opens22 (enc := enc)) (fun _ => rfl) (fld1 (hf 0 _ rfl) (show Try.prog.cellsOf 22 = 1 by kernel_rfl) rfl)
  obtain ⟨b, hb⟩ := one (opens3 (enc := enc)) (fun _ => rfl) (fld1 (hf 1 _ rfl) k3 rfl)
  obtain ⟨c, hc⟩ := one (opens23 (enc := enc)) (fun _ => rfl) (fld1 (hf 2 _ rfl) (show Try.prog.cellsOf 23 = 1 by kernel_rfl) rfl)
  exact ⟨⟨⟨a.1, b, c.1⟩, ⟨a.2, c.2.1, c.2.2⟩⟩, cr_cons ha (cr_cons hb (cr_cons hc cr_nil))⟩
theorem in_sou {H : Type} {enc : TypeId × Value → H} {W : World} {base : Nat} {v : Value} {d : DataW H} {p : List MemPlace} (hv : Value.okWide Try.prog W .any base 25 v) (hA : DataW.Trod enc Try.prog W 0 (fun _ => true) true 25 v d p) : ∃ s : Sou, SmS s ∧ Rel (sg0 W) W (souV s) v := by
 obtain ⟨x, hx⟩ := in_agg (g := fun s : {s : Sou // SmS s} => souL s.1) Try.underlying25 opens25 (fun _ => rfl) hv hA
 exact ⟨x.1, x.2, hx⟩
end Go.Proofs.Ytgicpobploinhaa
namespace Go.Proofs.Ytgicpobploinhaa
open Go Go.Ab Go.Proofs
attribute [local congr] g_bin g_nilS g_nilP g_un g_ext g_bx g_fa g_ld g_st g_ix g_ixA g_slc g_mk g_bs g_bd g_nc g_cv g_len g_lenT g_app g_appB g_cpy g_mm g_call g_callG g_calm g_calmG g_range g_res g_pick g_cond g_loop g_Jv g_eqS g_eqP g_fd g_ixT g_ta g_lkp g_upd g_mkM g_appS g_inv g_callE g_callEG g_invE g_zr g_wr
theorem c17 (s : Sou) (H : Hp) (sm : SmS s) : Ret Try.prog 17 [souV s] H (B (okS s)) H := by
 refine mk17 _ rfl (Nat.le_refl _) (.inl rfl) ?_
 simp only [vc17, real]
 have s1 := sm.so
 have s2 := sm.on
 repeat (first | (with_reducible first | refine Ju.go ?_ | (refine Hd.go ?_; intro K Q hK hQ; simp only [nod_agg, List.map_cons, nodL_ints, nd_no, nodL_imm, nodL_arr, List.map_nil, e_bxI, okE_agg, lv_cons, List.length_nil, Nat.zero_add, Nat.reduceAdd, all_c, ck_ints, ck_I, ck_arr, all_n, Bool.and_self, and_true, true_and, nod_cptr, e_fac, Nat.reduceLeDiff, List.getD_cons_zero, e_ldci, nod_ints, e_len, nod_imm, Try.underlying3, e_lss, e_gtr, e_gF, j_or', j_one, List.getD_cons_succ, e_ldc, e_ldcV, nod_arr, e_lenA, List.length_map, e_cond]; subst hK hQ) | refine Jr.go ?_) | refine sd ?_)
 have e1 : (decide ((s.so.length : Int) < 1) || decide (200 < (s.so.length : Int)) || decide (s.pk < 0) || decide (9 < s.pk) || decide (300 < (s.on.length : Int))) = !okHs s := by
  rw [Bool.eq_iff_iff]
  simp only [okHs, inB, Bool.not_eq_true', Bool.and_eq_false_iff, Bool.or_eq_true, decide_eq_true_eq, decide_eq_false_iff_not]
  omega
 rw [e1]
 have eS : okS s = ((okHs s && s.so.all fun x => inB x 0 9) && s.on.all (okOn s)) := rfl
 rw [eS]
 cases okHs s
 ·repeat (first | (with_reducible first | refine Ju.go ?_ | (refine Hd.go ?_; intro K Q hK hQ; simp only [Bool.not_false, if_true]; subst hK hQ) | refine Jr.go ?_) | refine sd ?_)
  exact end1 (fzI _)
 ·repeat (first | (with_reducible first | refine Ju.go ?_ | (refine Hd.go ?_; intro K Q hK hQ; simp only [Bool.not_true, Bool.false_eq_true, if_false]; subst hK hQ) | refine Jr.go ?_) | refine sd ?_)
  refine loop_of (fun i : Nat => i ≤ s.so.length ∧ (s.so.take i).all (fun x => inB x 0 9) = true) (fun i => [.cptr (souV s), I s.so.length, I i]) (fun _ => H) (fun i => s.so.length - i) 0 ⟨Nat.zero_le _, rfl⟩ rfl rfl ?_
  intro i ⟨hi, hp⟩
  repeat (first | (with_reducible first | refine Ju.go ?_ | (refine Hd.go ?_; intro K Q hK hQ; simp only [List.getD_cons_succ, List.getD_cons_zero, nod_imm, Try.underlying3, e_lss, e_cond, decide_eq_true_eq]; subst hK hQ) | refine Jr.go ?_) | refine sd ?_)
  by_cases hlt : i < s.so.length
  ·have d : (i : Int) < s.so.length := by omega
   repeat (first | (with_reducible first | refine Ju.go ?_ | (refine Hd.go ?_; intro K Q hK hQ; simp only [d, if_true, List.getD_cons_zero, nod_cptr, e_fac, Nat.zero_add, lv_cons, List.length_nil, Nat.reduceAdd, Nat.reduceLeDiff, true_and, e_ldci, nod_ints, nd_no, List.getD_cons_succ, nod_imm, e_ix, Int.toNat_natCast, e_ldc, Try.underlying3, e_lss, e_gtr, e_gF, j_fl, decide_eq_false_iff_not, j_or', j_side, j_one, e_cond]; subst hK hQ) | refine Jr.go ?_) | refine sd ?_)
   have e : (decide (s.so.getD i 0 < 0) || decide (9 < s.so.getD i 0)) = !inB (s.so.getD i 0) 0 9 := by
    unfold inB
    rw [Bool.not_and, ← decide_not, ← decide_not]
    simp only [Int.not_le]
   rw [e]
   cases hb : inB (s.so.getD i 0) 0 9
   ·repeat (first | (with_reducible first | refine Ju.go ?_ | (refine Hd.go ?_; intro K Q hK hQ; simp only [Bool.not_false, if_true]; subst hK hQ) | refine Jr.go ?_) | refine sd ?_)
    rw [show (s.so.all fun x => inB x 0 9) = false from all_bad s.so 0 _ hlt hb]
    exact end1 (fzI _)
   ·repeat (first | (with_reducible first | refine Ju.go ?_ | (refine Hd.go ?_; intro K Q hK hQ; simp only [Bool.not_true, Bool.false_eq_true, if_false, List.getD_cons_succ, List.getD_cons_zero, nod_imm, Try.underlying3, e_add]; subst hK hQ) | refine Jr.go ?_) | refine sd ?_)
    exact ⟨i + 1, ⟨by omega, by rw [all_take s.so 0 _ hlt, hp, hb]; rfl⟩, rfl, rfl, by omega⟩
  ·have d : ¬ (i : Int) < s.so.length := by omega
   rw [List.take_of_length_le (by omega)] at hp
   rw [hp]
   repeat (first | (with_reducible first | refine Ju.go ?_ | (refine Hd.go ?_; intro K Q hK hQ; simp only [d, if_false]; subst hK hQ) | refine Jr.go ?_) | refine sd ?_)
   clear hp d hlt
   refine loop_of (fun i : Nat => i ≤ s.on.length ∧ (s.on.take i).all (okOn s) = true) (fun i => [.cptr (souV s), I i]) (fun _ => H) (fun i => s.on.length - i) 0 ⟨Nat.zero_le _, rfl⟩ rfl rfl ?_
   intro i ⟨hi, hp⟩
   repeat (first | (with_reducible first | refine Ju.go ?_ | (refine Hd.go ?_; intro K Q hK hQ; simp only [List.getD_cons_zero, nod_cptr, e_fac, Nat.reduceAdd, lv_cons, List.length_nil, Nat.zero_add, Nat.reduceLeDiff, List.getD_cons_succ, true_and, e_ldcV, nod_arr, nd_no, e_lenA, List.length_map, nod_imm, Try.underlying3, e_lss, e_cond, decide_eq_true_eq]; subst hK hQ) | refine Jr.go ?_) | refine sd ?_)
   by_cases hlt : i < s.on.length
   ·have d : (i : Int) < s.on.length := by omega
    have hmem := getD_memA s.on [] hlt
    have hle := sm.ol _ hmem
    have bad : okOn s (s.on.getD i []) = false → (true && true && s.on.all (okOn s)) = false := fun h => all_bad s.on [] _ hlt h
    have eo : okOn s (s.on.getD i []) = (inB (s.on.getD i []).length 1 4 && okLi s (s.on.getD i []) && (s.on.getD i []).all fun p => !nuc s p) := rfl
    have nx := all_take s.on [] (okOn s) hlt
    repeat (first | (with_reducible first | refine Ju.go ?_ | (refine Hd.go ?_; intro K Q hK hQ; simp only [d, if_true, List.getD_cons_zero, nod_cptr, e_fac, Nat.reduceAdd, lv_cons, List.length_nil, Nat.zero_add, Nat.reduceLeDiff, List.getD_cons_succ, true_and, e_ldcV, nod_arr, nd_no, nod_imm, ix_li, Int.toNat_natCast, e_ldci, nod_ints, e_len, Try.underlying3, e_lss, e_gtr, e_gF, j_or', j_one, e_ldcA, nod_agg, List.map_cons, nodL_ints, nodL_imm, nodL_arr, List.map_nil]; subst hK hQ) | refine Jr.go ?_) | refine sd ?_)
    generalize s.on.getD i [] = o at *
    generalize hR : Rn _ = R
    have key : R [.cptr (souV s), I i, ints o .no, B (!(inB o.length 1 4 && okLi s o))] H := by
     subst hR
     cases hb : (inB o.length 1 4 && okLi s o)
     ·rw [hb] at eo
      repeat (first | (with_reducible first | refine Ju.go ?_ | (refine Hd.go ?_; intro K Q hK hQ; simp only [Bool.not_false, List.getD_cons_succ, List.getD_cons_zero, nod_imm, e_cond, if_true]; subst hK hQ) | refine Jr.go ?_) | refine sd ?_)
      rw [bad eo]
      exact end1 (fzI _)
     ·rw [hb, Bool.true_and] at eo
      rw [Bool.and_eq_true] at hb
      repeat (first | (with_reducible first | refine Ju.go ?_ | (refine Hd.go ?_; intro K Q hK hQ; simp only [Bool.not_true, List.getD_cons_succ, List.getD_cons_zero, nod_imm, e_cond, Bool.false_eq_true, if_false]; subst hK hQ) | refine Jr.go ?_) | refine sd ?_)
      refine loop_of (fun j : Nat => j ≤ o.length ∧ (o.take j).all (fun p => !nuc s p) = true) (fun j => [.cptr (souV s), I i, ints o .no, I j]) (fun _ => H) (fun j => o.length - j) 0 ⟨Nat.zero_le _, rfl⟩ rfl rfl ?_
      intro j ⟨hj, hq⟩
      repeat (first | (with_reducible first | refine Ju.go ?_ | (refine Hd.go ?_; intro K Q hK hQ; simp only [List.getD_cons_succ, List.getD_cons_zero, nod_ints, nd_no, e_len, nod_imm, Try.underlying3, e_lss, e_cond, decide_eq_true_eq]; subst hK hQ) | refine Jr.go ?_) | refine sd ?_)
      by_cases hjl : j < o.length
      ·have d2 : (j : Int) < o.length := by omega
       have hx := okLi_mem hb.2 (hMem o hjl)
       repeat (first | (with_reducible first | refine Ju.go ?_ | (refine Hd.go ?_; intro K Q hK hQ; simp only [d2, if_true, List.getD_cons_zero, nod_cptr, e_ldcA, lv_cons, List.length_nil, Nat.zero_add, Nat.reduceAdd, true_and, List.getD_cons_succ, nod_ints, nd_no, nod_imm, e_ix, Int.toNat_natCast, e_ldc, nod_agg, List.map_cons, nodL_ints, nodL_imm, nodL_arr, List.map_nil]; subst hK hQ) | refine Jr.go ?_) | refine sd ?_)
       refine call_ofD (c20 s _ _ hx sm.so) ?_
       cases hn : nuc s (o.getD j 0)
       ·repeat (first | (with_reducible first | refine Ju.go ?_ | (refine Hd.go ?_; intro K Q hK hQ; simp only [nod_imm, e_cond, Bool.false_eq_true, if_false, List.getD_cons_succ, List.getD_cons_zero, Try.underlying3, e_add]; subst hK hQ) | refine Jr.go ?_) | refine sd ?_)
        exact ⟨j + 1, ⟨by omega, by rw [all_take o 0 _ hjl, hq, hn]; rfl⟩, rfl, rfl, by omega⟩
       ·repeat (first | (with_reducible first | refine Ju.go ?_ | (refine Hd.go ?_; intro K Q hK hQ; simp only [nod_imm, e_cond, if_true]; subst hK hQ) | refine Jr.go ?_) | refine sd ?_)
        rw [show (o.all fun p => !nuc s p) = false from all_bad o 0 _ hjl (by rw [hn]; rfl)] at eo
        rw [bad eo]
        exact end1 (fzI _)
      ·have d2 : ¬ (j : Int) < o.length := by omega
       rw [List.take_of_length_le (by omega)] at hq
       rw [hq] at eo
       repeat (first | (with_reducible first | refine Ju.go ?_ | (refine Hd.go ?_; intro K Q hK hQ; simp only [d2, if_false, List.getD_cons_zero, List.getD_cons_succ, nod_imm, Try.underlying3, e_add]; subst hK hQ) | refine Jr.go ?_) | refine sd ?_)
       exact ⟨i + 1, ⟨by omega, by rw [nx, hp, eo]; rfl⟩, rfl, rfl, by omega⟩
    have e5 : inB o.length 1 4 = (!(decide ((o.length : Int) < 1) || decide (4 < (o.length : Int)))) := by
     unfold inB
     rw [Bool.not_or, ← decide_not, ← decide_not]
     simp only [Int.not_lt]
    cases hc : (decide ((o.length : Int) < 1) || decide (4 < (o.length : Int)))
    ·rw [e5, hc, Bool.not_false, Bool.true_and] at key
     repeat (first | (with_reducible first | refine Ju.go ?_ | (refine Hd.go ?_; intro K Q hK hQ; simp only [cond_false]; subst hK hQ) | refine Jr.go ?_) | refine sd ?_)
     refine call_of (c53 s o _ hle) ?_
     repeat (first | (with_reducible first | refine Ju.go ?_ | (refine Hd.go ?_; intro K Q hK hQ; simp only [nod_imm, e_not]; subst hK hQ) | refine Jr.go ?_) | refine sd ?_)
     exact key
    ·rw [e5, hc, Bool.not_true, Bool.false_and] at key
     repeat (first | (with_reducible first | refine Ju.go ?_ | (refine Hd.go ?_; intro K Q hK hQ; simp only [cond_true]; subst hK hQ) | refine Jr.go ?_) | refine sd ?_)
     exact key
   ·have d : ¬ (i : Int) < s.on.length := by omega
    rw [List.take_of_length_le (by omega)] at hp
    repeat (first | (with_reducible first | refine Ju.go ?_ | (refine Hd.go ?_; intro K Q hK hQ; simp only [d, if_false]; subst hK hQ) | refine Jr.go ?_) | refine sd ?_)
    rw [hp]
    exact end1 (fzI _)
theorem c18 (s : Sou) (l : List Int) (H : Hp) (hl : l.length ≤ 9223372036854775807) : Ret Try.prog 18 [souV s, ints l .no] H (B (decide (l.length ≤ 400) && okLi s l)) H := by
 refine mk18 _ _ rfl (Nat.le_refl _) (.inl rfl) ?_
 simp only [vc18, real]
 by_cases h : l.length ≤ 400
 ·have d : (l.length : Int) ≤ 400 := by omega
  rw [decide_eq_true h, Bool.true_and]
  repeat (first | (with_reducible first | refine Ju.go ?_ | (refine Hd.go ?_; intro K Q hK hQ; simp only [nod_agg, List.map_cons, nodL_ints, nd_no, nodL_imm, nodL_arr, List.map_nil, e_bxI, okE_agg, lv_cons, List.length_nil, Nat.zero_add, Nat.reduceAdd, all_c, ck_ints, ck_I, ck_arr, all_n, Bool.and_self, and_true, true_and, nod_ints, e_len, nod_imm, Try.underlying3, e_leq, d, decide_true, nod_cptr, e_ldcA, e_gT, cond_true]; subst hK hQ) | refine Jr.go ?_) | refine sd ?_)
  refine call_of (c53 s l _ hl) ?_
  repeat (first | (with_reducible first | refine Ju.go ?_ | (refine Hd.go ?_; intro K Q hK hQ; simp only [nod_imm]; subst hK hQ) | refine Jr.go ?_) | refine sd ?_)
  exact end1 (fzI _)
 ·have d : ¬ (l.length : Int) ≤ 400 := by omega
  rw [decide_eq_false h, Bool.false_and]
  repeat (first | (with_reducible first | refine Ju.go ?_ | (refine Hd.go ?_; intro K Q hK hQ; simp only [nod_agg, List.map_cons, nodL_ints, nd_no, nodL_imm, nodL_arr, List.map_nil, e_bxI, okE_agg, lv_cons, List.length_nil, Nat.zero_add, Nat.reduceAdd, all_c, ck_ints, ck_I, ck_arr, all_n, Bool.and_self, and_true, true_and, nod_ints, e_len, nod_imm, Try.underlying3, e_leq, d, decide_false, nod_cptr, e_ldcA, e_gT, cond_false, j_one]; subst hK hQ) | refine Jr.go ?_) | refine sd ?_)
  exact end1 (fzI _)
def leg (s : Sou) (l : List Int) : Bool := (s.on.any fun o => decide (o = l)) || decide (l.length = 0)
theorem c54 (s : Sou) (l : List Int) (H : Hp) (hs : s.on.length ≤ 1000000) (ho : ∀ o, o ∈ s.on → o.length ≤ 1000000) : Ret Try.prog 54 [souV s, ints l .no] H (B (leg s l)) H := by
 refine mk54 _ _ rfl (Nat.le_refl _) (.inl rfl) ?_
 simp only [vc54, real]
 repeat (first | (with_reducible first | refine Ju.go ?_ | (refine Hd.go ?_; intro K Q hK hQ; simp only [nod_agg, List.map_cons, nodL_ints, nd_no, nodL_imm, nodL_arr, List.map_nil, e_bxI, okE_agg, lv_cons, List.length_nil, Nat.zero_add, Nat.reduceAdd, all_c, ck_ints, ck_I, ck_arr, all_n, Bool.and_self, and_true, true_and]; subst hK hQ) | refine Jr.go ?_) | refine sd ?_)
 refine loop_of (fun i : Nat => i ≤ s.on.length ∧ ∀ j, j < i → s.on.getD j [] ≠ l) (fun i => [ints l .no, .cptr (souV s), I i]) (fun _ => H) (fun i => s.on.length - i) 0 ⟨Nat.zero_le _, fun j h => by omega⟩ rfl rfl ?_
 intro i ⟨hi, hp⟩
 repeat (first | (with_reducible first | refine Ju.go ?_ | (refine Hd.go ?_; intro K Q hK hQ; simp only [List.getD_cons_succ, List.getD_cons_zero, nod_cptr, e_fac, Nat.reduceAdd, lv_cons, List.length_nil, Nat.zero_add, Nat.reduceLeDiff, true_and, e_ldcV, nod_arr, nd_no, e_lenA, List.length_map, nod_imm, Try.underlying3, e_lss, e_cond, decide_eq_true_eq]; subst hK hQ) | refine Jr.go ?_) | refine sd ?_)
 by_cases hlt : i < s.on.length
 ·have d : (i : Int) < s.on.length := by omega
  have hm := getD_memA s.on [] hlt
  repeat (first | (with_reducible first | refine Ju.go ?_ | (refine Hd.go ?_; intro K Q hK hQ; simp only [d, if_true, List.getD_cons_succ, List.getD_cons_zero, nod_cptr, e_fac, Nat.reduceAdd, lv_cons, List.length_nil, Nat.zero_add, Nat.reduceLeDiff, true_and, e_ldcV, nod_arr, nd_no, nod_imm, ix_li, Int.toNat_natCast, e_ldci, nod_ints]; subst hK hQ) | refine Jr.go ?_) | refine sd ?_)
  refine call_of (c58 _ l .no .no _ (by have := ho _ hm; omega) (.inl rfl) (.inl rfl)) ?_
  by_cases he : s.on.getD i [] = l
  ·rw [decide_eq_true he]
   have : leg s l = true := by
    unfold leg
    rw [Bool.or_eq_true, List.any_eq_true]
    exact .inl ⟨_, hm, decide_eq_true he⟩
   rw [this]
   repeat (first | (with_reducible first | refine Ju.go ?_ | (refine Hd.go ?_; intro K Q hK hQ; simp only [List.getD_cons_zero, List.getD_cons_succ, nod_imm, e_cond, if_true]; subst hK hQ) | refine Jr.go ?_) | refine sd ?_)
   exact end1 (fzI _)
  ·rw [decide_eq_false he]
   repeat (first | (with_reducible first | refine Ju.go ?_ | (refine Hd.go ?_; intro K Q hK hQ; simp only [List.getD_cons_zero, List.getD_cons_succ, nod_imm, e_cond, Bool.false_eq_true, if_false, Try.underlying3, e_add]; subst hK hQ) | refine Jr.go ?_) | refine sd ?_)
   exact ⟨i + 1, ⟨hlt, fun j hj => by by_cases e : j = i; exact e ▸ he; exact hp j (by omega)⟩, rfl, rfl, by omega⟩
 ·have d : ¬ (i : Int) < s.on.length := by omega
  have e1 : (s.on.any fun o => decide (o = l)) = false := by
   rw [List.any_eq_false]
   intro o hm
   obtain ⟨j, hj, rfl⟩ := List.mem_iff_getElem.1 hm
   have := hp j (by omega)
   rw [List.getD_eq_getElem?_getD, List.getElem?_eq_getElem hj] at this
   simpa using this
  unfold leg
  rw [e1, Bool.false_or]
  have e2 : decide ((l.length : Int) = 0) = decide (l.length = 0) := by rw [decide_eq_decide]; omega
  repeat (first | (with_reducible first | refine Ju.go ?_ | (refine Hd.go ?_; intro K Q hK hQ; simp only [d, if_false, List.getD_cons_zero, nod_ints, nd_no, e_len, nod_imm, Try.underlying3, e_eql, e2]; subst hK hQ) | refine Jr.go ?_) | refine sd ?_)
  exact end1 (fzI _)
theorem leg_len {s : Sou} (hs : okS s = true) {l : List Int} (h : (s.on.any fun o => decide (o = l)) = true) : 1 ≤ l.length ∧ l.length ≤ 4 := by
 unfold okS at hs
 rw [Bool.and_eq_true, List.all_eq_true] at hs
 obtain ⟨o, ho, e⟩ := List.any_eq_true.1 h
 rw [decide_eq_true_eq] at e
 subst e
 have := hs.2 _ ho
 unfold okOn at this
 rw [Bool.and_eq_true, Bool.and_eq_true, inB_iff] at this
 omega
theorem onN_is (on : List (List Int)) (bt : List Int) : ∀ n, (onN on bt n ≠ 0 → (on.any fun o => decide (o = bt.drop (bt.length - onN on bt n))) = true) ∧ ∀ m, onN on bt n < m → m ≤ n → (on.any fun o => decide (o = bt.drop (bt.length - m))) = false
 | 0 => ⟨fun h => absurd rfl h, fun m h1 h2 => by unfold onN at h1; omega⟩
 | n + 1 => by
  obtain ⟨i1, i2⟩ := onN_is on bt n
  unfold onN
  split
  ·rename_i h
   exact ⟨fun _ => h, fun m h1 h2 => by omega⟩
  ·rename_i h
   refine ⟨i1, fun m h1 h2 => ?_⟩
   by_cases e : m = n + 1
   ·subst e; exact Bool.eq_false_iff.2 h
   ·exact i2 m h1 (by omega)
theorem ons_le (s : Sou) (bt : List Int) : ons s bt ≤ bt.length := Nat.le_trans (onN_le _ _ _) (Nat.min_le_right _ _)
theorem ons_is {s : Sou} (hs : okS s = true) (bt : List Int) : leg s (bt.drop (bt.length - ons s bt)) = true ∧ ∀ t, t < bt.length - ons s bt → leg s (bt.drop t) = false := by
 obtain ⟨h1, h2⟩ := onN_is s.on bt (min 4 bt.length)
 have hle := ons_le s bt
 refine ⟨?_, fun t ht => ?_⟩
 ·unfold leg
  rw [Bool.or_eq_true]
  by_cases h0 : ons s bt = 0
  ·right
   rw [decide_eq_true_eq, List.length_drop]; omega
  ·exact .inl (h1 h0)
 ·unfold leg
  have hl : (bt.drop t).length = bt.length - t := List.length_drop ..
  rw [Bool.or_eq_false_iff, decide_eq_false_iff_not]
  refine ⟨?_, by omega⟩
  by_cases h4 : bt.length - t ≤ 4
  ·have := h2 (bt.length - t) (by show ons s bt < _; omega) (by omega)
   rwa [show bt.length - (bt.length - t) = t by omega] at this
  ·refine Bool.eq_false_iff.2 fun h => ?_
   have := leg_len hs h
   omega
def nl (s : Sou) (ph : List Int) (i : Nat) : List Nat := (List.range i).filter fun j => nuc s (ph.getD j 0)
def frS (s : Sou) (ph : List Int) (L : List Nat) : Nat → Int
 | 0 => 0
 | j + 1 => (L.getD (j + 1) 0 : Nat) - (ons s (btw ph (L.getD j 0 + 1) (L.getD (j + 1) 0)) : Nat)
def toS (s : Sou) (ph : List Int) (L : List Nat) (j : Nat) : Int := if j + 1 < L.length then frS s ph L (j + 1) else (ph.length : Nat)
def sylL (s : Sou) (ph : List Int) (L : List Nat) (m : Nat) : List Sy3 := (List.range m).map fun j => ⟨frS s ph L j, (L.getD j 0 : Nat), toS s ph L j⟩
theorem sylL_len (s : Sou) (ph : List Int) (L : List Nat) (m : Nat) : (sylL s ph L m).length = m := by unfold sylL; simp
theorem sylL_get (s : Sou) (ph : List Int) (L : List Nat) {m j : Nat} (h : j < m) : (sylL s ph L m).getD j default = ⟨frS s ph L j, (L.getD j 0 : Nat), toS s ph L j⟩ := by
 unfold sylL
 rw [List.getD_eq_getElem?_getD, List.getElem?_map, List.getElem?_range h]; rfl
theorem sylL_s (s : Sou) (ph : List Int) (L : List Nat) (m : Nat) : sylL s ph L (m + 1) = sylL s ph L m ++ [⟨frS s ph L m, (L.getD m 0 : Nat), toS s ph L m⟩] := by
 unfold sylL
 rw [List.range_succ, List.map_append]; rfl
theorem getD_app {L : List Nat} (x : Nat) {j : Nat} (h : j < L.length) : (L ++ [x]).getD j 0 = L.getD j 0 := by
 rw [List.getD_eq_getElem?_getD, List.getElem?_append_left h, List.getD_eq_getElem?_getD]
theorem getD_last (L : List Nat) (x : Nat) : (L ++ [x]).getD L.length 0 = x := by
 rw [List.getD_eq_getElem?_getD, List.getElem?_append_right (Nat.le_refl _), Nat.sub_self]; rfl
theorem frS_s (s : Sou) (ph : List Int) (L : List Nat) (j : Nat) : frS s ph L (j + 1) = (L.getD (j + 1) 0 : Nat) - (ons s (btw ph (L.getD j 0 + 1) (L.getD (j + 1) 0)) : Nat) := rfl
theorem frS_app (s : Sou) (ph : List Int) (L : List Nat) (x : Nat) : ∀ {j : Nat}, j < L.length → frS s ph (L ++ [x]) j = frS s ph L j
 | 0, _ => rfl
 | j + 1, h => by
  rw [frS_s, frS_s, getD_app x h, getD_app x (by omega : j < L.length)]
theorem addS_L (s : Sou) (ph : List Int) (i : Nat) (L : List Nat) : addS s ph i (sylL s ph L L.length) = sylL s ph (L ++ [i]) (L ++ [i]).length := by
 have hlen := sylL_len s ph L L.length
 unfold addS
 rw [hlen]
 by_cases h0 : L.length = 0
 ·rw [if_pos h0]
  obtain rfl := List.length_eq_zero_iff.1 h0
  rfl
 ·rw [if_neg h0]
  have hg := sylL_get s ph L (m := L.length) (j := L.length - 1) (by omega)
  dsimp only
  rw [hg]
  have e1 : (((L.getD (L.length - 1) 0 : Nat) : Int) + 1).toNat = L.getD (L.length - 1) 0 + 1 := by omega
  dsimp only
  rw [e1]
  have ef : frS s ph (L ++ [i]) L.length = (i : Int) - (ons s (btw ph (L.getD (L.length - 1) 0 + 1) i) : Nat) := by
   obtain ⟨k, hk⟩ : ∃ k, L.length = k + 1 := ⟨L.length - 1, by omega⟩
   have a1 := getD_last L i
   have a2 := getD_app (L := L) i (j := k) (by omega)
   rw [hk] at a1
   rw [hk]
   rw [frS_s, a1, a2, Nat.add_sub_cancel]
  rw [← ef]
  have el : (L ++ [i]).length = L.length + 1 := by simp
  rw [el, sylL_s, getD_last]
  have et : toS s ph (L ++ [i]) L.length = (ph.length : Nat) := by
   unfold toS
   rw [if_neg (by rw [el]; omega)]
  rw [et]
  congr 1
  refine List.ext_getElem? fun j => ?_
  rw [List.getElem?_set]
  unfold sylL
  rw [List.getElem?_map, List.getElem?_map]
  by_cases hj : j < L.length
  ·rw [List.getElem?_range hj]
   by_cases hl : L.length - 1 = j
   ·rw [if_pos hl, if_pos (by rw [List.length_map, List.length_range]; omega)]
    subst hl
    simp only [Option.map_some]
    rw [frS_app s ph L i (j := L.length - 1) (by omega), getD_app (L := L) i (j := L.length - 1) (by omega)]
    unfold toS
    rw [if_pos (by rw [el]; omega), show L.length - 1 + 1 = L.length by omega]
   ·rw [if_neg hl]
    simp only [Option.map_some]
    rw [frS_app s ph L i hj, getD_app i hj]
    unfold toS
    have c1 : j + 1 < L.length := by omega
    have c2 : j + 1 < (L ++ [i]).length := by rw [el]; omega
    rw [if_pos c1, if_pos c2, frS_app s ph L i c1]
  ·rw [if_neg (by omega), List.getElem?_eq_none (by rw [List.length_range]; omega)]; rfl
theorem nl_s (s : Sou) (ph : List Int) (i : Nat) : nl s ph (i + 1) = if nuc s (ph.getD i 0) = true then nl s ph i ++ [i] else nl s ph i := by
 unfold nl
 rw [List.range_succ, List.filter_append]
 split
 ·rename_i h
  rw [List.filter_cons_of_pos (p := fun j => nuc s (ph.getD j 0)) h]; rfl
 ·rename_i h
  rw [List.filter_cons_of_neg (p := fun j => nuc s (ph.getD j 0)) h, List.filter_nil, List.append_nil]
theorem sylN_L (s : Sou) (ph : List Int) : ∀ i, sylN s ph i = sylL s ph (nl s ph i) (nl s ph i).length
 | 0 => rfl
 | i + 1 => by
  unfold sylN
  rw [nl_s, sylN_L s ph i]
  split
  ·exact addS_L s ph i _
  ·rfl
theorem nl_sorted (s : Sou) (ph : List Int) (i : Nat) : ∀ {j : Nat}, j + 1 < (nl s ph i).length → (nl s ph i).getD j 0 < (nl s ph i).getD (j + 1) 0 := by
 intro j h
 have hp : (nl s ph i).Pairwise (· < ·) := List.Pairwise.filter _ List.pairwise_lt_range
 have := List.pairwise_iff_getElem.1 hp j (j + 1) (by omega) h (by omega)
 rw [List.getD_eq_getElem?_getD, List.getElem?_eq_getElem (by omega), List.getD_eq_getElem?_getD, List.getElem?_eq_getElem h]
 exact this
theorem nl_mem {s : Sou} {ph : List Int} {i j : Nat} (h : j < (nl s ph i).length) : (nl s ph i).getD j 0 < i ∧ nuc s (ph.getD ((nl s ph i).getD j 0) 0) = true := by
 have hm := getD_memA (nl s ph i) 0 h
 have := List.mem_filter.1 hm
 rw [List.mem_range] at this
 exact this
theorem sylP_L (s : Sou) (ph : List Int) : sylP s ph = if ph.length = 0 then [] else if (nl s ph ph.length).length = 0 then [⟨0, -1, ph.length⟩] else sylL s ph (nl s ph ph.length) (nl s ph ph.length).length := by
 unfold sylP
 rw [sylN_L, sylL_len]
theorem nl_len (s : Sou) (ph : List Int) (i : Nat) : (nl s ph i).length ≤ i := by
 unfold nl
 exact Nat.le_trans (List.length_filter_le ..) (by simp)
theorem inI_get (L : List Nat) (k : Nat) : (L.map Int.ofNat).getD k 0 = ((L.getD k 0 : Nat) : Int) := by
 rw [List.getD_eq_getElem?_getD, List.getElem?_map, List.getD_eq_getElem?_getD]
 cases L[k]? <;> rfl
def frX (s : Sou) (ph : List Int) (L : List Nat) (k : Nat) : Int := if k = 0 then 0 else toS s ph L (k - 1)
theorem frX_lt (s : Sou) (ph : List Int) (L : List Nat) {k : Nat} (h : k < L.length) : frX s ph L k = frS s ph L k := by
 unfold frX
 cases k with
 | zero => rfl
 | succ k =>
  rw [if_neg (Nat.succ_ne_zero k), Nat.add_sub_cancel]
  unfold toS
  rw [if_pos h]
theorem bel_sy3 (n : Nat) (l : List Sy3) (f : Fl) : Bel n (.arr (l.map syV) f) := bel_E (e := syV) (fun x => .agg _ fun c hc => by
 simp only [List.mem_cons, List.not_mem_nil, or_false] at hc
 rcases hc with rfl | rfl | rfl <;> exact .imm _) l f
theorem c19 (s : Sou) (ph : List Int) (H : Hp) (sm : SmS s) (hs : okS s = true) (hl4 : ph.length ≤ 400) (hli : okLi s ph = true) : Ret Try.prog 19 [souV s, ints ph .no] H (.arr ((sylP s ph).map syV) .no) H := by
 refine mk19 _ _ rfl (Nat.le_refl _) (.inl rfl) ?_
 simp only [vc19, real]
 rw [sylP_L]
 by_cases h0 : ph.length = 0
 ·have d : (ph.length : Int) = 0 := by omega
  rw [if_pos h0]
  repeat (first | (with_reducible first | refine Ju.go ?_ | (refine Hd.go ?_; intro K Q hK hQ; simp only [nod_agg, List.map_cons, nodL_ints, nd_no, nodL_imm, nodL_arr, List.map_nil, e_bxI, okE_agg, lv_cons, List.length_nil, Nat.zero_add, Nat.reduceAdd, all_c, ck_ints, ck_I, ck_arr, all_n, Bool.and_self, and_true, true_and, nod_ints, e_len, d, nod_imm, Try.underlying3, e_eql, decide_true, e_cond, if_true]; subst hK hQ) | refine Jr.go ?_) | refine sd ?_)
  exact end1 (.full [] (bel_sy3 _ [] .full))
 ·have d : ¬ (ph.length : Int) = 0 := by omega
  rw [if_neg h0]
  repeat (first | (with_reducible first | refine Ju.go ?_ | (refine Hd.go ?_; intro K Q hK hQ; simp only [nod_agg, List.map_cons, nodL_ints, nd_no, nodL_imm, nodL_arr, List.map_nil, e_bxI, okE_agg, lv_cons, List.length_nil, Nat.zero_add, Nat.reduceAdd, all_c, ck_ints, ck_I, ck_arr, all_n, Bool.and_self, and_true, true_and, nod_ints, e_len, nod_imm, Try.underlying3, e_eql, d, decide_false, e_cond, Bool.false_eq_true, if_false]; subst hK hQ) | refine Jr.go ?_) | refine sd ?_)
  refine loop_of (fun q : Nat × Fl => q.1 ≤ ph.length ∧ q.2.ap = true ∧ ((q.2 = .full ∧ nl s ph q.1 = []) ∨ q.2 = .own)) (fun q => [ints ph .no, .cptr (souV s), ints ((nl s ph q.1).map Int.ofNat) q.2, I q.1]) (fun _ => H) (fun q => ph.length - q.1) (0, .full) ⟨Nat.zero_le _, rfl, .inl ⟨rfl, rfl⟩⟩ rfl rfl ?_
  rintro ⟨i, f⟩ ⟨hi, hap, hff⟩
  simp only at hi hap hff ⊢
  have hnl := nl_len s ph i
  repeat (first | (with_reducible first | refine Ju.go ?_ | (refine Hd.go ?_; intro K Q hK hQ; simp only [List.getD_cons_zero, nod_ints, nd_no, e_len, List.getD_cons_succ, nod_imm, Try.underlying3, e_lss, e_cond, decide_eq_true_eq]; subst hK hQ) | refine Jr.go ?_) | refine sd ?_)
  by_cases hlt : i < ph.length
  ·have di : (i : Int) < ph.length := by omega
   have hin := okLi_mem hli (hMem ph hlt)
   have es := nl_s s ph i
   repeat (first | (with_reducible first | refine Ju.go ?_ | (refine Hd.go ?_; intro K Q hK hQ; simp only [di, if_true, List.getD_cons_succ, List.getD_cons_zero, nod_cptr, e_ldcA, lv_cons, List.length_nil, Nat.zero_add, Nat.reduceAdd, true_and, nod_ints, nd_no, nod_imm, e_ix, Int.toNat_natCast, e_ldc, nod_agg, List.map_cons, nodL_ints, nodL_imm, nodL_arr, List.map_nil]; subst hK hQ) | refine Jr.go ?_) | refine sd ?_)
   refine call_ofD (c20 s _ _ hin sm.so) ?_
   cases hn : nuc s (ph.getD i 0)
   ·rw [hn, if_neg (by decide)] at es
    repeat (first | (with_reducible first | refine Ju.go ?_ | (refine Hd.go ?_; intro K Q hK hQ; simp only [nod_imm, e_cond, Bool.false_eq_true, if_false, List.getD_cons_zero, List.getD_cons_succ, Try.underlying3, e_add]; subst hK hQ) | refine Jr.go ?_) | refine sd ?_)
    exact ⟨(i + 1, f), ⟨hlt, hap, by show (f = .full ∧ nl s ph (i + 1) = []) ∨ f = .own; rw [es]; exact hff⟩, by show [_, _, ints ((nl s ph (i + 1)).map Int.ofNat) f, _] = _; rw [es]; rfl, rfl, by show ph.length - (i + 1) < ph.length - i; omega⟩
   ·rw [hn, if_pos rfl] at es
    repeat (first | (with_reducible first | refine Ju.go ?_ | (refine Hd.go ?_; intro K Q hK hQ; simp only [nod_imm, e_cond, if_true, List.getD_cons_succ, List.getD_cons_zero, bs1, nod_ints, nd_full, e_app, List.length_map, Try.underlying3, e_add]; subst hK hQ) | refine Jr.go ?_) | refine sd ?_)
    exact ⟨(i + 1, .own), ⟨hlt, rfl, .inr rfl⟩, by show [_, _, ints ((nl s ph (i + 1)).map Int.ofNat) .own, _] = _; rw [es, List.map_append]; rfl, rfl, by show ph.length - (i + 1) < ph.length - i; omega⟩
  ·have di : ¬ (i : Int) < ph.length := by omega
   obtain rfl : i = ph.length := by omega
   by_cases hz : (nl s ph ph.length).length = 0
   ·have dz : (((nl s ph ph.length).length : Nat) : Int) = 0 := by omega
    rw [if_pos hz]
    repeat (first | (with_reducible first | refine Ju.go ?_ | (refine Hd.go ?_; intro K Q hK hQ; simp only [di, if_false, List.getD_cons_succ, List.getD_cons_zero, nod_ints, e_len, List.length_map, dz, nod_imm, Try.underlying3, e_eql, decide_true, e_cond, if_true, nd_no, Int.reduceNeg, e_bd1, okE_I, Nat.zero_add, lv_cons, List.length_nil, Nat.reduceAdd, Nat.reduceLeDiff, cl_imm, spl_0, spl_n, spl_s, e_bd0, true_and, nod_agg, List.map_cons, nodL_imm, List.map_nil]; subst hK hQ) | refine Jr.go ?_) | refine sd ?_)
    refine Eq.mpr (bs_sy ⟨0, -1, ph.length⟩ _ _) ?_
    exact end1 (.full _ (bel_sy3 _ [⟨0, -1, ph.length⟩] .full))
   ·have dz : ¬ (((nl s ph ph.length).length : Nat) : Int) = 0 := by omega
    rw [if_neg hz]
    have hf : f = .own := by
     rcases hff with ⟨-, h⟩ | h
     ·rw [h] at hz; exact absurd rfl hz
     ·exact h
    subst hf
    have hsort := @nl_sorted s ph ph.length
    have hmem := @nl_mem s ph ph.length
    generalize nl s ph ph.length = L at *
    repeat (first | (with_reducible first | refine Ju.go ?_ | (refine Hd.go ?_; intro K Q hK hQ; simp only [di, if_false, List.getD_cons_succ, List.getD_cons_zero, nod_ints, nd_own, nd_no, e_len, List.length_map, nod_imm, Try.underlying3, e_eql, dz, decide_false, e_cond, Bool.false_eq_true]; subst hK hQ) | refine Jr.go ?_) | refine sd ?_)
    refine loop_of (fun q : Nat × Fl => q.1 ≤ L.length ∧ q.2.ap = true ∧ ((q.2 = .full ∧ q.1 = 0) ∨ q.2 = .own)) (fun q => [ints ph .no, .cptr (souV s), ints (L.map Int.ofNat) .own, .arr ((sylL s ph L q.1).map syV) q.2, I (frX s ph L q.1), I q.1]) (fun _ => H) (fun q => L.length - q.1) (0, .full) ⟨Nat.zero_le _, rfl, .inl ⟨rfl, rfl⟩⟩ rfl rfl ?_
    clear hi hlt di hap hff
    rintro ⟨k, f⟩ ⟨hk, hap, hff⟩
    simp only at hk hap hff ⊢
    repeat (first | (with_reducible first | refine Ju.go ?_ | (refine Hd.go ?_; intro K Q hK hQ; simp only [List.getD_cons_succ, List.getD_cons_zero, nod_ints, nd_own, nd_no, e_len, List.length_map, nod_imm, Try.underlying3, e_lss, e_cond, decide_eq_true_eq]; subst hK hQ) | refine Jr.go ?_) | refine sd ?_)
    by_cases hkl : k < L.length
    ·have dk : (k : Int) < L.length := by omega
     have r1 : R64 ((k : Int) + 1) := by unfold R64; omega
     have hm := (hmem hkl).1
     repeat (first | (with_reducible first | refine Ju.go ?_ | (refine Hd.go ?_; intro K Q hK hQ; simp only [dk, if_true, List.getD_cons_zero, nod_ints, nd_no, e_len, List.getD_cons_succ, nod_imm, Try.underlying3, e_add, r1, true_and, nd_own, List.length_map, e_lss, e_cond, decide_eq_true_eq]; subst hK hQ) | refine Jr.go ?_) | refine sd ?_)
     generalize hR43 : Rn _ = R43
     have key43 : R43 [ints ph .no, .cptr (souV s), ints (L.map Int.ofNat) .own, .arr ((sylL s ph L k).map syV) f, I (frX s ph L k), I k, I (toS s ph L k)] H := by
      subst hR43
      have ef := frX_lt s ph L hkl
      repeat (first | (with_reducible first | refine Ju.go ?_ | (refine Hd.go ?_; intro K Q hK hQ; simp only [List.getD_cons_succ, List.getD_cons_zero, nod_ints, nd_own, nd_no, nod_imm, e_ix, List.length_map, dk, Int.toNat_natCast, inI_get, true_and, nod_cptr, e_ldc, e_bd1, okE_I, Nat.zero_add, lv_cons, List.length_nil, Nat.reduceAdd, Nat.reduceLeDiff, cl_imm, spl_0, spl_n, spl_s, e_bd0, own0_imm, nod_agg, List.map_cons, nodL_imm, List.map_nil]; subst hK hQ) | refine Jr.go ?_) | refine sd ?_)
      refine Eq.mpr (bs_sy ⟨frX s ph L k, (L.getD k 0 : Nat), toS s ph L k⟩ _ _) ?_
      refine Eq.mpr (e_appE syV (fun _ => rfl) 24 (sylL s ph L k) [⟨frX s ph L k, (L.getD k 0 : Nat), toS s ph L k⟩] f .full) ⟨hap, by rw [sylL_len]; simp; omega, ?_⟩
      rw [ef, ← sylL_s]
      repeat (first | (with_reducible first | refine Ju.go ?_ | (refine Hd.go ?_; intro K Q hK hQ; simp only [List.getD_cons_zero, List.getD_cons_succ, nod_imm, Try.underlying3, e_add]; subst hK hQ) | refine Jr.go ?_) | refine sd ?_)
      exact ⟨(k + 1, .own), ⟨hkl, rfl, .inr rfl⟩, rfl, rfl, by show L.length - (k + 1) < L.length - k; omega⟩
     by_cases hk1 : k + 1 < L.length
     ·have dk1 : (k : Int) + 1 < L.length := by omega
      have r2 : R64 (((L.getD k 0 : Nat) : Int) + 1) := by unfold R64; omega
      have hab := hsort hk1
      have hb := (hmem hk1).1
      have et : toS s ph L k = ((L.getD (k + 1) 0 : Nat) : Int) - (ons s (btw ph (L.getD k 0 + 1) (L.getD (k + 1) 0)) : Nat) := by
       unfold toS
       rw [if_pos hk1, frS_s]
      have g1 := inI_get L k
      have g2 := inI_get L (k + 1)
      rw [et] at key43
      obtain ⟨o1, o2⟩ := ons_is hs (btw ph (L.getD k 0 + 1) (L.getD (k + 1) 0))
      have ole := ons_le s (btw ph (L.getD k 0 + 1) (L.getD (k + 1) 0))
      have bl : (btw ph (L.getD k 0 + 1) (L.getD (k + 1) 0)).length = L.getD (k + 1) 0 - (L.getD k 0 + 1) := by
       unfold btw
       rw [List.length_drop, List.length_take]; omega
      generalize hq : ons s (btw ph (L.getD k 0 + 1) (L.getD (k + 1) 0)) = on at *
      have bd : ∀ t, (btw ph (L.getD k 0 + 1) (L.getD (k + 1) 0)).drop t = (ph.take (L.getD (k + 1) 0)).drop (L.getD k 0 + 1 + t) := fun t => by unfold btw; rw [List.drop_drop]
      simp only [bd] at o1 o2
      generalize hA : L.getD k 0 + 1 = A at *
      generalize hB : L.getD (k + 1) 0 = B0 at *
      repeat (first | (with_reducible first | refine Ju.go ?_ | (refine Hd.go ?_; intro K Q hK hQ; simp only [dk1, if_true, decide_true, List.getD_cons_succ, List.getD_cons_zero, nod_ints, nd_own, nd_no, nod_imm, e_ix, List.length_map, Int.toNat_natCast, g1, nod_cptr, e_ldc, Try.underlying3, e_add, r2, true_and]; subst hK hQ) | refine Jr.go ?_) | refine sd ?_)
      refine loop_of (fun t : Nat => t + on ≤ B0 - A) (fun t => [ints ph .no, .cptr (souV s), ints (L.map Int.ofNat) .own, .arr ((sylL s ph L k).map syV) f, I (frX s ph L k), I k, I ((A + t : Nat) : Int)]) (fun _ => H) (fun t => B0 - t) 0 (by show 0 + on ≤ B0 - A; omega) (by show [_, _, _, _, _, _, I _] = [_, _, _, _, _, _, I _]; rw [show ((L.getD k 0 : Nat) : Int) + 1 = ((A + 0 : Nat) : Int) by omega]; rfl) rfl ?_
      intro t ht
      have h1 : ((A + t : Nat) : Int) ≤ B0 := by omega
      have h2 : (B0 : Int) ≤ ph.length := by omega
      have r3 : R64 (((A + t : Nat) : Int) + 1) := by unfold R64; omega
      have r4 : R64 ((k : Int) + 1) := r1
      have ekk : ((k : Int) + 1).toNat = k + 1 := by omega
      repeat (first | (with_reducible first | refine Ju.go ?_ | (refine Hd.go ?_; intro K Q hK hQ; simp only [List.getD_cons_succ, List.getD_cons_zero, nod_cptr, e_ldcA, lv_cons, List.length_nil, Nat.zero_add, Nat.reduceAdd, true_and, nod_imm, Try.underlying3, e_add, r4, nod_ints, nd_own, nd_no, e_ix, List.length_map, dk1, ekk, g2, e_ldc, e_slcLH, h1, h2, Int.toNat_natCast, nod_agg, List.map_cons, nodL_ints, nodL_imm, nodL_arr, List.map_nil]; subst hK hQ) | refine Jr.go ?_) | refine sd ?_)
      have hso := hs
      unfold okS okHs at hso
      simp only [Bool.and_eq_true, decide_eq_true_eq, List.all_eq_true] at hso
      refine call_ofD (c54 s _ _ (by have := hso.1.1.2; omega) (fun o ho => by
       have := hso.2 o ho
       unfold okOn at this
       simp only [Bool.and_eq_true, inB_iff] at this
       omega)) ?_
      by_cases htq : t < B0 - A - on
      ·rw [o2 t (by omega)]
       repeat (first | (with_reducible first | refine Ju.go ?_ | (refine Hd.go ?_; intro K Q hK hQ; simp only [nod_imm, e_not, Bool.not_false, e_cond, if_true, List.getD_cons_succ, List.getD_cons_zero, Try.underlying3, e_add, r3, true_and]; subst hK hQ) | refine Jr.go ?_) | refine sd ?_)
       exact ⟨t + 1, by omega, rfl, rfl, by omega⟩
      ·have ht2 : t = B0 - A - on := by omega
       subst ht2
       rw [bl] at o1
       rw [o1]
       rw [show (B0 : Int) - on = ((A + (B0 - A - on) : Nat) : Int) by omega] at key43
       repeat (first | (with_reducible first | refine Ju.go ?_ | (refine Hd.go ?_; intro K Q hK hQ; simp only [nod_imm, e_not, Bool.not_true, e_cond, Bool.false_eq_true, if_false]; subst hK hQ) | refine Jr.go ?_) | refine sd ?_)
       exact key43
     ·have dk1 : ¬ (k : Int) + 1 < L.length := by omega
      have et : toS s ph L k = (ph.length : Nat) := by
       unfold toS
       rw [if_neg hk1]
      rw [et] at key43
      repeat (first | (with_reducible first | refine Ju.go ?_ | (refine Hd.go ?_; intro K Q hK hQ; simp only [dk1, if_false]; subst hK hQ) | refine Jr.go ?_) | refine sd ?_)
      exact key43
    ·have dk : ¬ (k : Int) < L.length := by omega
     obtain rfl : k = L.length := by omega
     have hf : f = .own := by
      rcases hff with ⟨-, h⟩ | h
      ·omega
      ·exact h
     subst hf
     repeat (first | (with_reducible first | refine Ju.go ?_ | (refine Hd.go ?_; intro K Q hK hQ; simp only [dk, if_false]; subst hK hQ) | refine Jr.go ?_) | refine sd ?_)
     exact end1 (.keep _ (bel_sy3 _ _ _))
end Go.Proofs.Ytgicpobploinhaa
