/- The stresses of any word, or the error: true for every input. -/
import Derived.Test.YtgicpobploinhaaP6
import Derived.Test.YtgicpobploinhaaProg
import Derived.Test.YtgicpobploinhaaRows
set_option linter.unusedVariables false
set_option maxRecDepth 20000
set_option maxHeartbeats 4000000
namespace Go.Proofs.Ytgicpobploinhaa
open Go Go.Ab Go.Proofs
def an5 : An := { imm := [2], jn := [(4, [1, 2, 5, 6, 7]), (5, [1, 2, 5, 6, 7, 28]), (6, [1, 2, 5, 6, 7]), (8, [1, 2, 5, 6, 7])], lp := [], loud := [], ord := [] }
def vc5 (C : Cb) (a0 a1 : V) (H : Hp) (R : List V → Hp → Prop) : Prop :=
 C.aBx true 5 a0.nod H fun v1 H2 =>
 C.aLen a1.nod.nod fun v3 =>
 C.aBin (Try.prog.underlying 3) .gtr v3.nod (I 100) fun v4 =>
 aCond v4.nod (
 C.callE 15 [] H2 fun v5 H6 =>
 R [v5] H6) (
 Jn (fun l7 H8 =>
 Jn (fun l10 H11 =>
 Jn (fun l13 H14 =>
 C.aLd 5 true false (l13.getD 1 .junk).nod H14 fun v16 H17 =>
 C.callE 24 [v16.nod, (l13.getD 0 .junk).nod.nod] H17 fun v18 H19 =>
 C.aExt 0 v18.nod.nod fun v20 =>
 C.aExt 1 v18.nod.nod fun v21 =>
 C.aBin (Try.prog.underlying 28) .eql (l13.getD 4 .junk).nod.nod (I 0) fun v22 =>
 Jv (fun v23 H24 =>
 Jv (fun v27 H28 =>
 Jv (fun v32 H33 =>
 R [v32] H33)
 (fun R34 =>
 aG v27.nod true (
 C.callE 15 [] H28 fun v35 H36 =>
 R34 v35.nod H36) (
 R34 (B false) H28)))
 (fun R29 =>
 aG v23.nod true (
 C.callE 25 [(l13.getD 3 .junk).nod.nod, v21.nod.nod] H24 fun v30 H31 =>
 R29 v30.nod H31) (
 R29 (B false) H24)))
 (fun R25 =>
 aG v22.nod true (
 C.aBin (Try.prog.underlying 3) .eql (l13.getD 2 .junk).nod.nod v20.nod.nod fun v26 =>
 R25 v26.nod H19) (
 R25 (B false) H19)))
 (fun R15 =>
 C.aLen (l10.getD 0 .junk).nod.nod fun v37 =>
 C.aBin (Try.prog.underlying 3) .eql v37.nod (I 0) fun v38 =>
 aCond v38.nod (
 C.aBin (Try.prog.underlying 28) .eql (l10.getD 4 .junk).nod.nod (I 5) fun v39 =>
 Jv (fun v40 H41 =>
 Jv (fun v44 H45 =>
 Jv (fun v49 H50 =>
 R [v49] H50)
 (fun R51 =>
 aG v44.nod true (
 C.callE 15 [] H45 fun v52 H53 =>
 R51 v52.nod H53) (
 R51 (B false) H45)))
 (fun R46 =>
 aG v40.nod true (
 C.aLen (l10.getD 3 .junk).nod.nod fun v47 =>
 C.aBin (Try.prog.underlying 3) .eql v47.nod (I 0) fun v48 =>
 R46 v48.nod H41) (
 R46 (B false) H41)))
 (fun R42 =>
 aG v39.nod true (
 C.aBin (Try.prog.underlying 3) .eql (l10.getD 2 .junk).nod.nod (I 0) fun v43 =>
 R42 v43.nod H11) (
 R42 (B false) H11))) (
 R15 [(l10.getD 0 .junk), (l10.getD 1 .junk), (l10.getD 2 .junk), (l10.getD 3 .junk), (l10.getD 4 .junk)] H11)))
 (fun R12 =>
 Jn (fun l54 H55 =>
 aCond (l54.getD 5 .junk).nod (
 C.aBin (Try.prog.underlying 28) .eql (l54.getD 4 .junk).nod.nod (I 2) fun v57 =>
 Jv (fun v58 H59 =>
 Jv (fun v62 H63 =>
 Jv (fun v67 H68 =>
 R [v67] H68)
 (fun R69 =>
 aG v62.nod true (
 C.callE 15 [] H63 fun v70 H71 =>
 R69 v70.nod H71) (
 R69 (B false) H63)))
 (fun R64 =>
 aG v58.nod true (
 C.aLen (l54.getD 3 .junk).nod.nod fun v65 =>
 C.aBin (Try.prog.underlying 3) .eql v65.nod (I 0) fun v66 =>
 R64 v66.nod H59) (
 R64 (B false) H59)))
 (fun R60 =>
 aG v57.nod true (
 C.aBin (Try.prog.underlying 3) .eql (l54.getD 2 .junk).nod.nod (I 0) fun v61 =>
 R60 v61.nod H55) (
 R60 (B false) H55))) (
 R12 [(l54.getD 0 .junk), (l54.getD 1 .junk), (l54.getD 2 .junk), (l54.getD 3 .junk), (l54.getD 4 .junk)] H55))
 (fun R56 =>
 C.aLd 5 true false (l7.getD 1 .junk).nod H8 fun v72 H73 =>
 C.callE 23 [v72.nod] H73 fun v74 H75 =>
 C.aUn .not v74.nod fun v76 =>
 Jv (fun v77 H78 =>
 R56 [(l7.getD 0 .junk), (l7.getD 1 .junk), (l7.getD 2 .junk), (l7.getD 3 .junk), (l7.getD 4 .junk), v77] H78)
 (fun R79 =>
 aG v76.nod false (
 C.aLen (l7.getD 0 .junk).nod.nod fun v80 =>
 C.aBin (Try.prog.underlying 3) .gtr v80.nod (I 60) fun v81 =>
 R79 v81.nod H75) (
 R79 (B true) H75)))))
 (fun R9 =>
 C.aLd 5 true false v1.nod H2 fun v82 H83 =>
 C.callE 22 [v82.nod, a1.nod.nod] H83 fun v84 H85 =>
 C.aExt 0 v84.nod.nod fun v86 =>
 C.aExt 1 v84.nod.nod fun v87 =>
 C.aExt 2 v84.nod.nod fun v88 =>
 R9 [a1, v1, v86, v87, v88] H85))
theorem wf5 : (Nat.ble 2 Try.f5.ntmps && wfC an5 Try.f5.ntmps (Try.f5.body.getD .skip)) = true := by kernel_rfl
theorem tie5 (C : Cb) (a0 a1 : V) (H : Hp) (R : List V → Hp → Prop) : wpG Try.prog C an5 (Try.f5.body.getD .skip) (argF [a0, a1]) H (retG Try.prog C Try.f5 R) (fun _ _ _ => False) (retG Try.prog C Try.f5 R) = vc5 C a0 a1 H R := by kernel_rfl
theorem mk5 (a0 a1 : V) {H : Hp} {v : V} {H1 : Hp} (hd : v.Nd) (hn : H.length ≤ H1.length) (hb : H1 = H ∨ ∀ (b : Nat) (blk : Blk), H1[b]? = some blk → H[b]? = some blk ∨ BelB H1.length blk) (h : vc5 (real Try.prog) a0 a1 H (retF v H1)) : Ret Try.prog 5 [a0, a1] H v H1 :=
 ret_mk (an := an5) hm Try.call5 Try.func5 rfl wf5 hd hn hb (Eq.mpr (tie5 (real Try.prog) a0 a1 H (retF v H1)) h)
theorem mkE5 (a0 a1 : V) {H : Hp} {Q : V → Hp → Prop} (h : vc5 (real Try.prog) a0 a1 H (retW Q)) : RetE Try.prog 5 [a0, a1] H Q :=
 retE_mk (an := an5) hm Try.call5 Try.func5 rfl wf5 (Eq.mpr (tie5 (real Try.prog) a0 a1 H (retW Q)) h)
theorem mko5 (a0 a1 : V) {H : Hp} {xs : List V} {H1 : Hp} (hn : H.length ≤ H1.length) (hb : H1 = H ∨ ∀ (b : Nat) (blk : Blk), H1[b]? = some blk → H[b]? = some blk ∨ BelB H1.length blk) (h : vc5 (real Try.prog) a0 a1 H (retO xs H1)) : Ret Try.prog 5 [a0, a1] H (.arr xs .own) H1 :=
 ret_mko (an := an5) (t := 4) hm Try.call5 Try.func5 rfl wf5 rfl hn hb (Eq.mpr (tie5 (real Try.prog) a0 a1 H (retO xs H1)) h)
end Go.Proofs.Ytgicpobploinhaa
set_option linter.unusedSimpArgs false
set_option linter.unnecessarySimpa false
set_option maxHeartbeats 2000000
namespace Go.Proofs.Ytgicpobploinhaa
open Go Go.Ab Go.Proofs
attribute [local congr] g_bin g_nilS g_nilP g_un g_ext g_bx g_fa g_ld g_st g_ix g_ixA g_slc g_mk g_bs g_bd g_nc g_cv g_len g_lenT g_app g_appB g_cpy g_mm g_call g_callG g_calm g_calmG g_range g_res g_pick g_cond g_loop g_Jv g_eqS g_eqP g_fd g_ixT g_ta g_lkp g_upd g_mkM g_appS g_inv g_callE g_callEG g_invE g_zr g_wr
theorem sdP_len (t : Sty) (h : List Bool) : (sdP t h).length ≤ mnP t h := by
 unfold sdP
 split
 ·exact sdI_len (mnP t h) t.sp.toNat (mnP t h)
 ·exact Nat.zero_le _
theorem mnP_lt (t : Sty) (h : List Bool) (h0 : h.length ≠ 0) : mnP t h < h.length := by
 refine atP_lt t ?_
 have hf : fstP t h.length < h.length := by unfold fstP; split <;> omega
 unfold mkP
 split
 ·split
  ·rename_i k hk
   have := (List.find?_range_eq_some.1 hk).2.1
   rwa [List.mem_range] at this
  ·omega
 ·omega
theorem c5 (t : Sty) (h : List Bool) (H : Hp) (w1 : h.length ≤ 9223372036854775807) : Ret Try.prog 5 [stvV t, .arr (h.map boV) .no] H (B true) H := by
 refine mk5 _ _ rfl (Nat.le_refl _) (.inl rfl) ?_
 simp only [vc5, real]
 by_cases h1 : 100 < (h.length : Int)
 ·repeat (first | (with_reducible first | refine Ju.go ?_ | (refine Hd.go ?_; intro K Q hK hQ; simp only [nod_agg, List.map_cons, nodL_imm, List.map_nil, e_bxI, okE_agg, lv_cons, List.length_nil, Nat.zero_add, Nat.reduceAdd, all_c, ck_B, ck_I, all_n, Bool.and_self, and_true, true_and, nod_arr, nd_no, e_lenA, List.length_map, nod_imm, Try.underlying3, e_gtr, h1, decide_true, e_cond, if_true]; subst hK hQ) | refine Jr.go ?_) | refine sd ?_)
  refine call_of (c15 _) ?_
  repeat (first | (with_reducible first | refine Ju.go ?_ | (refine Hd.go ?_; intro K Q hK hQ; simp only []; subst hK hQ) | refine Jr.go ?_) | refine sd ?_)
  exact end1 (fzI _)
 ·repeat (first | (with_reducible first | refine Ju.go ?_ | (refine Hd.go ?_; intro K Q hK hQ; simp only [nod_agg, List.map_cons, nodL_imm, List.map_nil, e_bxI, okE_agg, lv_cons, List.length_nil, Nat.zero_add, Nat.reduceAdd, all_c, ck_B, ck_I, all_n, Bool.and_self, and_true, true_and, nod_arr, nd_no, e_lenA, List.length_map, nod_imm, Try.underlying3, e_gtr, h1, decide_false, e_cond, Bool.false_eq_true, if_false, nod_cptr, e_ldcA]; subst hK hQ) | refine Jr.go ?_) | refine sd ?_)
  refine call_of (c22 t h H w1) ?_
  cases hok : (okSt t && decide (h.length ≤ 60))
  ·have e9 : (!okSt t || decide (60 < (h.length : Int))) = true := by
    rw [show decide (60 < (h.length : Int)) = !decide (h.length ≤ 60) by rw [← decide_not, decide_eq_decide]; omega, ← Bool.not_and, hok]; rfl
   rw [if_neg (by decide)]
   repeat (first | (with_reducible first | refine Ju.go ?_ | (refine Hd.go ?_; intro K Q hK hQ; simp only [nod_tup, List.map_cons, nod2_imm, nod2_ints, nd_no, List.map_nil, e_x30, e_x31, e_x32, List.getD_cons_succ, List.getD_cons_zero, nod_cptr, e_ldcA, lv_cons, List.length_nil, Nat.zero_add, Nat.reduceAdd, true_and, nod_agg, nodL_imm]; subst hK hQ) | refine Jr.go ?_) | refine sd ?_)
   refine call_of (c23 t H) ?_
   repeat (first | (with_reducible first | refine Ju.go ?_ | (refine Hd.go ?_; intro K Q hK hQ; simp only [nod_imm, e_not, List.getD_cons_zero, nod_arr, nd_no, Try.underlying3, e_lenA, List.length_map, e_gtr, e_gF, j_or', e9, j_one, List.getD_cons_succ, e_cond, if_true, e_eql, decide_true, e_gT, cond_true, nod_ints, e_len, List.length_nil, Int.cast_ofNat_Int]; subst hK hQ) | refine Jr.go ?_) | refine sd ?_)
   refine call_of (c15 _) ?_
   repeat (first | (with_reducible first | refine Ju.go ?_ | (refine Hd.go ?_; intro K Q hK hQ; simp only [nod_imm]; subst hK hQ) | refine Jr.go ?_) | refine sd ?_)
   exact end1 (fzI _)
  ·have e9 : (!okSt t || decide (60 < (h.length : Int))) = false := by
    rw [show decide (60 < (h.length : Int)) = !decide (h.length ≤ 60) by rw [← decide_not, decide_eq_decide]; omega, ← Bool.not_and, hok]; rfl
   rw [Bool.and_eq_true, decide_eq_true_eq] at hok
   rw [if_pos rfl]
   by_cases h0 : h.length = 0
   ·have d : (h.length : Int) = 0 := by omega
    have e90 : (!okSt t || decide ((60 : Int) < 0)) = false := by rw [d] at e9; exact e9
    rw [if_pos h0]
    repeat (first | (with_reducible first | refine Ju.go ?_ | (refine Hd.go ?_; intro K Q hK hQ; simp only [nod_tup, List.map_cons, nod2_imm, nod2_ints, nd_no, List.map_nil, e_x30, e_x31, e_x32, List.getD_cons_succ, List.getD_cons_zero, nod_cptr, e_ldcA, lv_cons, List.length_nil, Nat.zero_add, Nat.reduceAdd, true_and, nod_agg, nodL_imm]; subst hK hQ) | refine Jr.go ?_) | refine sd ?_)
    refine call_of (c23 t H) ?_
    repeat (first | (with_reducible first | refine Ju.go ?_ | (refine Hd.go ?_; intro K Q hK hQ; simp only [nod_imm, e_not, List.getD_cons_zero, nod_arr, nd_no, Try.underlying3, e_lenA, List.length_map, d, e_gtr, e_gF, j_or', e90, j_one, List.getD_cons_succ, e_cond, Bool.false_eq_true, if_false, e_eql, decide_true, if_true, e_gT, cond_true, nod_ints, e_len, List.length_nil, Int.cast_ofNat_Int]; subst hK hQ) | refine Jr.go ?_) | refine sd ?_)
    refine call_of (c15 _) ?_
    repeat (first | (with_reducible first | refine Ju.go ?_ | (refine Hd.go ?_; intro K Q hK hQ; simp only [nod_imm]; subst hK hQ) | refine Jr.go ?_) | refine sd ?_)
    exact end1 (fzI _)
   ·have d : ¬ (h.length : Int) = 0 := by omega
    rw [if_neg h0]
    have hs := sdP_len t h
    have hm := mnP_lt t h h0
    repeat (first | (with_reducible first | refine Ju.go ?_ | (refine Hd.go ?_; intro K Q hK hQ; simp only [nod_tup, List.map_cons, nod2_imm, nod2_ints, nd_no, List.map_nil, e_x30, e_x31, e_x32, List.getD_cons_succ, List.getD_cons_zero, nod_cptr, e_ldcA, lv_cons, List.length_nil, Nat.zero_add, Nat.reduceAdd, true_and, nod_agg, nodL_imm]; subst hK hQ) | refine Jr.go ?_) | refine sd ?_)
    refine call_of (c23 t H) ?_
    repeat (first | (with_reducible first | refine Ju.go ?_ | (refine Hd.go ?_; intro K Q hK hQ; simp only [nod_imm, e_not, List.getD_cons_zero, nod_arr, nd_no, Try.underlying3, e_lenA, List.length_map, e_gtr, e_gF, j_or', e9, j_one, List.getD_cons_succ, e_cond, Bool.false_eq_true, if_false, e_eql, d, decide_false, nod_cptr, e_ldcA, lv_cons, List.length_nil, Nat.zero_add, Nat.reduceAdd, true_and, nod_agg, List.map_cons, nodL_imm, List.map_nil]; subst hK hQ) | refine Jr.go ?_) | refine sd ?_)
    refine call_of (c24 t h H hok.1 h0 hok.2) ?_
    repeat (first | (with_reducible first | refine Ju.go ?_ | (refine Hd.go ?_; intro K Q hK hQ; simp only [nod_tup, List.map_cons, nod2_imm, nod2_ints, nd_no, List.map_nil, e_x20, e_x21, List.getD_cons_succ, List.getD_cons_zero, nod_imm, e_eql, decide_true, Try.underlying3, e_gT, cond_true, j_one, nod_ints]; subst hK hQ) | refine Jr.go ?_) | refine sd ?_)
    refine call_of (c25 (sdP t h) (sdP t h) .no .no H (by omega) (.inl rfl) (.inl rfl)) ?_
    rw [decide_eq_true rfl]
    repeat (first | (with_reducible first | refine Ju.go ?_ | (refine Hd.go ?_; intro K Q hK hQ; simp only [nod_imm, e_gT, cond_true]; subst hK hQ) | refine Jr.go ?_) | refine sd ?_)
    refine call_of (c15 _) ?_
    repeat (first | (with_reducible first | refine Ju.go ?_ | (refine Hd.go ?_; intro K Q hK hQ; simp only [nod_imm]; subst hK hQ) | refine Jr.go ?_) | refine sd ?_)
    exact end1 (fzI _)
open Go.ChangeShapes Go.WideShapes Go.ChangeAt Go.RowKit
theorem own : ownKnob Try.prog.godebug = none := by kernel_rfl
theorem laidOut : laidOutB Try.prog = true := by kernel_rfl
set_option maxRecDepth 100000 in
theorem lifted (os : Os) (started : os.Started) (H : Type) (enc : TypeId × Value → H) :
    ReturnsInHanded {} Try.checked os 5 .any (Rows.prosodyStressSpec.pre6 enc Try.prog Try.f5 Rows.prosodyStressRow.domain false) (Rows.prosodyStressSpec.post enc Try.prog Try.f5 false true false false) := by
  refine returnsInHanded_of_change (C := Try.checked) own started (by kernel_rfl) Try.func5
    (ChangeSpec.witness6 (enc := enc) (C := Try.checked) false ⟨#[], #[.agg #[.bool false, .int .i64 0, .int .i64 0, .bool false, .int .i64 0], .slice none 0 0], []⟩ 8 (by kernel_rfl) (by kernel_rfl) (by kernel_rfl) (by kernel_rfl)) ?_
  intro W base args ds gs before hval0 hW hcnd _
  have hval : ∀ (j : Nat) t v, Try.f5.params[j]? = some t → args[j]? = some v → Value.okWide Try.prog W .any base t v := hval0
  have hW' := hW
  obtain ⟨p, q, hA0, hV, rfl, hfz, hnd⟩ := hW
  have hA : DataW.TrodAll enc Try.prog W 0 (fun _ => true) true Try.f5.params.toList args.toList ds p := hA0
  rw [Try.params5] at hA hval
  obtain ⟨v0, vs0, d0, ds0, p0, q0, hargs, rfl, rfl, h0, r0⟩ := trodAll_cons hA
  obtain ⟨v1, vs1, d1, ds1, p1, q1, rfl, rfl, rfl, h1, r1⟩ := trodAll_cons r0
  obtain ⟨rfl, rfl, rfl⟩ := trodAll_nil r1
  obtain rfl : args = #[v0, v1] := by cases args; simp_all
  obtain ⟨rfl, rfl⟩ := trodVars_none hV
  have lt0 : ∀ x ∈ p0, x.block < W.heap.size := by obtain ⟨m, hm⟩ := h0; exact DataW.trod_lt m _ _ _ hm
  obtain ⟨l0, e0⟩ := in_sty (hval 0 _ v0 rfl rfl) h0
  have lt1 : ∀ x ∈ p1, x.block < W.heap.size := by obtain ⟨m, hm⟩ := h1; exact DataW.trod_lt m _ _ _ hm
  obtain ⟨l1, w1, e1⟩ := in_bools (hval 1 _ v1 rfl rfl) h1
  clear hA0 hval0
  refine (bridge (args := [stvV l0, .arr (l1.map boV) .no]) (ra := #[v0, v1]) (c5 l0 l1 [] w1) rfl (by intro a ha; simp at ha; rcases ha with rfl | rfl <;> rfl) (fun i => ?_)).mono fun e W' ⟨he, bel⟩ => ?_
  · match i with
    | 0 => exact e0
    | 1 => exact e1
    | i + 2 => exact .junk _
  · subst he
    exact ⟨_, rfl, _, _, _, [], _, [], hW', trodAll_mk1 (shut_bool Try.underlying4 _), (trodAll_cons_mk (Below.trod laidOut (by kernel_rfl) (of_decide_eq_true (by kernel_rfl)) h0 bel lt0) (trodAll_cons_mk (Below.trod laidOut (by kernel_rfl) (of_decide_eq_true (by kernel_rfl)) h1 bel lt1) trodAll_mk0)), rfl, bel.frame _, fun h => by cases h⟩
theorem over : Rows.prosodyStressRow.holds Try.pinned (OpenSpec.ofChange Rows.prosodyStressSpec) :=
 OpenClaim.holds_of_wide 5 Try.f5 rfl rfl rfl rfl rfl rfl rfl ⟨rfl, rfl, rfl, rfl, rfl⟩ rfl rfl rfl rfl rfl (by kernel_rfl) Try.func5 (by kernel_rfl)
  (of_decide_eq_true (by kernel_rfl)) (by unfold Func.isWrapper; first | (rw [if_pos (by decide +kernel)]; kernel_rfl) | (rw [if_neg (by decide +kernel)]; exact ⟨rfl, rfl⟩))
  (fun os started H enc _ => lifted os started H enc)
theorem prosodyStress_holds : Rows.ProsodyStressSaid := over
#print axioms prosodyStress_holds
end Go.Proofs.Ytgicpobploinhaa
