/- The syllables of any list of phones, or the error: true for every input. -/
import Derived.Test.YtgicpobploinhaaP6
import Derived.Test.YtgicpobploinhaaProg
import Derived.Test.YtgicpobploinhaaRows
set_option linter.unusedVariables false
set_option maxRecDepth 20000
set_option maxHeartbeats 4000000
namespace Go.Proofs.Ytgicpobploinhaa
open Go Go.Ab Go.Proofs
def an3 : An := { imm := [2], jn := [(2, [1, 2, 23]), (5, [1, 2, 5, 6, 39]), (7, [5, 6, 7]), (8, [5, 7, 61]), (13, [5, 7, 8, 76])], lp := [(10, [5, 7, 8])], loud := [], ord := [] }
def vc3 (C : Cb) (a0 a1 : V) (H : Hp) (R : List V → Hp → Prop) : Prop :=
 C.aBx true 3 a0.nod H fun v1 H2 =>
 Jn (fun l3 H4 =>
 aCond (l3.getD 2 .junk).nod (
 C.callE 15 [] H4 fun v6 H7 =>
 R [v6] H7) (
 C.aLd 3 true false (l3.getD 1 .junk).nod H4 fun v8 H9 =>
 C.callE 16 [v8.nod, (l3.getD 0 .junk).nod.nod] H9 fun v10 H11 =>
 C.aExt 0 v10.nod.nod fun v12 =>
 C.aExt 1 v10.nod.nod fun v13 =>
 Jn (fun l14 H15 =>
 aCond (l14.getD 4 .junk).nod (
 C.aBin (Try.prog.underlying 28) .eql (l14.getD 3 .junk).nod.nod (I 2) fun v17 =>
 Jv (fun v18 H19 =>
 Jv (fun v23 H24 =>
 R [v23] H24)
 (fun R25 =>
 aG v18.nod true (
 C.callE 15 [] H19 fun v26 H27 =>
 R25 v26.nod H27) (
 R25 (B false) H19)))
 (fun R20 =>
 aG v17.nod true (
 C.aLen (l14.getD 2 .junk).nod.nod fun v21 =>
 C.aBin (Try.prog.underlying 3) .eql v21.nod (I 0) fun v22 =>
 R20 v22.nod H15) (
 R20 (B false) H15))) (
 Jn (fun l28 H29 =>
 Jn (fun l31 H32 =>
 aCond (l31.getD 2 .junk).nod (
 R [(B false)] H32) (
 LoopA (fun l34 H35 K36 =>
 C.aLen (l34.getD 0 .junk).nod.nod fun v37 =>
 C.aBin (Try.prog.underlying 3) .lss (l34.getD 2 .junk).nod.nod v37.nod fun v38 =>
 aCond v38.nod (
 Jn (fun l39 H40 =>
 aCond (l39.getD 3 .junk).nod (
 R [(B false)] H40) (
 C.aBin (Try.prog.underlying 3) .add (l39.getD 2 .junk).nod.nod (I 1) fun v42 =>
 K36 [(l39.getD 0 .junk), (l39.getD 1 .junk), v42] H40))
 (fun R41 =>
 C.aIx 3 (l34.getD 0 .junk).nod.nod (l34.getD 2 .junk).nod.nod fun v43 =>
 C.aLd 3 true false v43.nod H35 fun v44 H45 =>
 C.aIx 3 (l34.getD 1 .junk).nod.nod (l34.getD 2 .junk).nod.nod fun v46 =>
 C.aLd 3 true false v46.nod H45 fun v47 H48 =>
 C.aEqS 35 .neq v44.nod v47.nod fun v49 =>
 R41 [(l34.getD 0 .junk), (l34.getD 1 .junk), (l34.getD 2 .junk), v49] H48)) (
 C.callE 15 [] H35 fun v50 H51 =>
 R [v50] H51))
 [(l31.getD 0 .junk), (l31.getD 1 .junk), (I 0)] H32))
 (fun R33 =>
 C.aBin (Try.prog.underlying 28) .neq (l28.getD 1 .junk).nod.nod (I 0) fun v52 =>
 Jv (fun v53 H54 =>
 R33 [(l28.getD 0 .junk), (l28.getD 2 .junk), v53] H54)
 (fun R55 =>
 aG v52.nod false (
 C.aLen (l28.getD 0 .junk).nod.nod fun v56 =>
 C.aLen (l28.getD 2 .junk).nod.nod fun v57 =>
 C.aBin (Try.prog.underlying 3) .neq v56.nod v57.nod fun v58 =>
 R55 v58.nod H29) (
 R55 (B true) H29))))
 (fun R30 =>
 C.aLd 3 true false (l14.getD 1 .junk).nod H15 fun v59 H60 =>
 C.callE 19 [v59.nod, (l14.getD 0 .junk).nod.nod] H60 fun v61 H62 =>
 R30 [(l14.getD 2 .junk), (l14.getD 3 .junk), v61] H62)))
 (fun R16 =>
 C.aLd 3 true false (l3.getD 1 .junk).nod H11 fun v63 H64 =>
 C.callE 17 [v63.nod] H64 fun v65 H66 =>
 C.aUn .not v65.nod fun v67 =>
 Jv (fun v68 H69 =>
 R16 [(l3.getD 0 .junk), (l3.getD 1 .junk), v12, v13, v68] H69)
 (fun R70 =>
 aG v67.nod false (
 C.aLd 3 true false (l3.getD 1 .junk).nod H66 fun v71 H72 =>
 C.callE 18 [v71.nod, (l3.getD 0 .junk).nod.nod] H72 fun v73 H74 =>
 C.aUn .not v73.nod fun v75 =>
 R70 v75.nod H74) (
 R70 (B true) H66)))))
 (fun R5 =>
 C.aFA 2 1 false v1.nod fun v76 =>
 C.aLd 1 false false v76.nod H2 fun v77 H78 =>
 C.aLen v77.nod fun v79 =>
 C.aBin (Try.prog.underlying 3) .gtr v79.nod (I 310) fun v80 =>
 Jv (fun v81 H82 =>
 Jv (fun v89 H90 =>
 R5 [a1, v1, v89] H90)
 (fun R91 =>
 aG v81.nod false (
 C.aLen a1.nod.nod fun v92 =>
 C.aBin (Try.prog.underlying 3) .gtr v92.nod (I 500) fun v93 =>
 R91 v93.nod H82) (
 R91 (B true) H82)))
 (fun R83 =>
 aG v80.nod false (
 C.aFA 0 1 false v1.nod fun v84 =>
 C.aLd 1 false false v84.nod H78 fun v85 H86 =>
 C.aLen v85.nod fun v87 =>
 C.aBin (Try.prog.underlying 3) .gtr v87.nod (I 300) fun v88 =>
 R83 v88.nod H86) (
 R83 (B true) H78)))
theorem wf3 : (Nat.ble 2 Try.f3.ntmps && wfC an3 Try.f3.ntmps (Try.f3.body.getD .skip)) = true := by kernel_rfl
theorem tie3 (C : Cb) (a0 a1 : V) (H : Hp) (R : List V → Hp → Prop) : wpG Try.prog C an3 (Try.f3.body.getD .skip) (argF [a0, a1]) H (retG Try.prog C Try.f3 R) (fun _ _ _ => False) (retG Try.prog C Try.f3 R) = vc3 C a0 a1 H R := by kernel_rfl
theorem mk3 (a0 a1 : V) {H : Hp} {v : V} {H1 : Hp} (hd : v.Nd) (hn : H.length ≤ H1.length) (hb : H1 = H ∨ ∀ (b : Nat) (blk : Blk), H1[b]? = some blk → H[b]? = some blk ∨ BelB H1.length blk) (h : vc3 (real Try.prog) a0 a1 H (retF v H1)) : Ret Try.prog 3 [a0, a1] H v H1 :=
 ret_mk (an := an3) hm Try.call3 Try.func3 rfl wf3 hd hn hb (Eq.mpr (tie3 (real Try.prog) a0 a1 H (retF v H1)) h)
theorem mkE3 (a0 a1 : V) {H : Hp} {Q : V → Hp → Prop} (h : vc3 (real Try.prog) a0 a1 H (retW Q)) : RetE Try.prog 3 [a0, a1] H Q :=
 retE_mk (an := an3) hm Try.call3 Try.func3 rfl wf3 (Eq.mpr (tie3 (real Try.prog) a0 a1 H (retW Q)) h)
theorem mko3 (a0 a1 : V) {H : Hp} {xs : List V} {H1 : Hp} (hn : H.length ≤ H1.length) (hb : H1 = H ∨ ∀ (b : Nat) (blk : Blk), H1[b]? = some blk → H[b]? = some blk ∨ BelB H1.length blk) (h : vc3 (real Try.prog) a0 a1 H (retO xs H1)) : Ret Try.prog 3 [a0, a1] H (.arr xs .own) H1 :=
 ret_mko (an := an3) (t := 4) hm Try.call3 Try.func3 rfl wf3 rfl hn hb (Eq.mpr (tie3 (real Try.prog) a0 a1 H (retO xs H1)) h)
end Go.Proofs.Ytgicpobploinhaa
set_option linter.unusedSimpArgs false
set_option linter.unnecessarySimpa false
set_option maxHeartbeats 2000000
namespace Go.Proofs.Ytgicpobploinhaa
open Go Go.Ab Go.Proofs
attribute [local congr] g_bin g_nilS g_nilP g_un g_ext g_bx g_fa g_ld g_st g_ix g_ixA g_slc g_mk g_bs g_bd g_nc g_cv g_len g_lenT g_app g_appB g_cpy g_mm g_call g_callG g_calm g_calmG g_range g_res g_pick g_cond g_loop g_Jv g_eqS g_eqP g_fd g_ixT g_ta g_lkp g_upd g_mkM g_appS g_inv g_callE g_callEG g_invE g_zr g_wr
theorem sylP_len (s : Sou) (ph : List Int) : (sylP s ph).length ≤ ph.length := by
 rw [sylP_L]
 split
 ·exact Nat.zero_le _
 ·split
  ·show 1 ≤ _; omega
  ·rw [sylL_len]; exact nl_len s ph _
theorem c3 (s : Sou) (ph : List Int) (H : Hp) (w0 : SmS s) (w1 : ph.length ≤ 9223372036854775807) : Ret Try.prog 3 [souV s, ints ph .no] H (B true) H := by
 refine mk3 _ _ rfl (Nat.le_refl _) (.inl rfl) ?_
 simp only [vc3, real]
 have s1 := w0.so
 have s2 := w0.on
 repeat (first | (with_reducible first | refine Ju.go ?_ | (refine Hd.go ?_; intro K Q hK hQ; simp only [nod_agg, List.map_cons, nodL_ints, nd_no, nodL_imm, nodL_arr, List.map_nil, e_bxI, okE_agg, lv_cons, List.length_nil, Nat.zero_add, Nat.reduceAdd, all_c, ck_ints, ck_I, ck_arr, all_n, Bool.and_self, and_true, true_and, nod_cptr, e_fac, Nat.reduceLeDiff, List.getD_cons_succ, List.getD_cons_zero, e_ldcV, nod_arr, e_lenA, List.length_map, nod_imm, Try.underlying3, e_gtr, e_ldci, nod_ints, e_len, e_gF, j_or', j_one, e_cond]; subst hK hQ) | refine Jr.go ?_) | refine sd ?_)
 split
 ·refine call_of (c15 _) ?_
  repeat (first | (with_reducible first | refine Ju.go ?_ | (refine Hd.go ?_; intro K Q hK hQ; simp only []; subst hK hQ) | refine Jr.go ?_) | refine sd ?_)
  exact end1 (fzI _)
 ·repeat (first | (with_reducible first | refine Ju.go ?_ | (refine Hd.go ?_; intro K Q hK hQ; simp only [List.getD_cons_succ, List.getD_cons_zero, nod_cptr, e_ldcA, lv_cons, List.length_nil, Nat.zero_add, Nat.reduceAdd, true_and, nod_agg, List.map_cons, nodL_ints, nd_no, nodL_imm, nodL_arr, List.map_nil, nod_ints]; subst hK hQ) | refine Jr.go ?_) | refine sd ?_)
  refine call_of (c16 s ph H w0 w1) ?_
  cases hok : (okS s && decide (ph.length ≤ 400) && okLi s ph)
  ·rw [if_neg (by decide)]
   have e1 : (okS s && (decide (ph.length ≤ 400) && okLi s ph)) = false := by rw [← Bool.and_assoc]; exact hok
   repeat (first | (with_reducible first | refine Ju.go ?_ | (refine Hd.go ?_; intro K Q hK hQ; simp only [nod_tup, List.map_cons, nod2_imm, List.map_nil, e_x20, e_x21, List.getD_cons_succ, List.getD_cons_zero, nod_cptr, e_ldcA, lv_cons, List.length_nil, Nat.zero_add, Nat.reduceAdd, true_and, nod_agg, nodL_ints, nd_no, nodL_imm, nodL_arr]; subst hK hQ) | refine Jr.go ?_) | refine sd ?_)
   refine call_of (c17 s H w0) ?_
   repeat (first | (with_reducible first | refine Ju.go ?_ | (refine Hd.go ?_; intro K Q hK hQ; simp only [nod_imm, e_not, List.getD_cons_succ, List.getD_cons_zero, nod_cptr, nod_ints, nd_no, e_ldcA, lv_cons, List.length_nil, Nat.zero_add, Nat.reduceAdd, nod_agg, List.map_cons, nodL_ints, nodL_imm, nodL_arr, List.map_nil, true_and, e_gF]; subst hK hQ) | refine Jr.go ?_) | refine sd ?_)
   generalize hR : Rn _ = R
   have key : R [ints ph .no, .cptr (souV s), .arr [] .no, I 2, B (!(okS s && (decide (ph.length ≤ 400) && okLi s ph)))] H := by
    rw [e1]
    subst hR
    repeat (first | (with_reducible first | refine Ju.go ?_ | (refine Hd.go ?_; intro K Q hK hQ; simp only [Bool.not_false, List.getD_cons_succ, List.getD_cons_zero, nod_imm, e_cond, if_true, e_eql, decide_true, nod_arr, nd_no, Try.underlying3, e_lenA, List.length_nil, Int.cast_ofNat_Int, e_gT, cond_true, j_one]; subst hK hQ) | refine Jr.go ?_) | refine sd ?_)
    refine call_of (c15 _) ?_
    repeat (first | (with_reducible first | refine Ju.go ?_ | (refine Hd.go ?_; intro K Q hK hQ; simp only [nod_imm]; subst hK hQ) | refine Jr.go ?_) | refine sd ?_)
    exact end1 (fzI _)
   cases hs : okS s
   ·rw [hs] at key
    repeat (first | (with_reducible first | refine Ju.go ?_ | (refine Hd.go ?_; intro K Q hK hQ; simp only [Bool.not_false, cond_true]; subst hK hQ) | refine Jr.go ?_) | refine sd ?_)
    exact key
   ·rw [hs, Bool.true_and] at key
    repeat (first | (with_reducible first | refine Ju.go ?_ | (refine Hd.go ?_; intro K Q hK hQ; simp only [Bool.not_true, cond_false]; subst hK hQ) | refine Jr.go ?_) | refine sd ?_)
    refine call_of (c18 s ph H w1) ?_
    repeat (first | (with_reducible first | refine Ju.go ?_ | (refine Hd.go ?_; intro K Q hK hQ; simp only [nod_imm, e_not]; subst hK hQ) | refine Jr.go ?_) | refine sd ?_)
    exact key
  ·rw [if_pos rfl]
   simp only [Bool.and_eq_true, decide_eq_true_eq] at hok
   obtain ⟨⟨hs, hl4⟩, hli⟩ := hok
   have c18' := c18 s ph H w1
   rw [decide_eq_true hl4, hli] at c18'
   have c17' := c17 s H w0
   rw [hs] at c17'
   repeat (first | (with_reducible first | refine Ju.go ?_ | (refine Hd.go ?_; intro K Q hK hQ; simp only [nod_tup, List.map_cons, nod2_imm, List.map_nil, e_x20, e_x21, List.getD_cons_succ, List.getD_cons_zero, nod_cptr, e_ldcA, lv_cons, List.length_nil, Nat.zero_add, Nat.reduceAdd, true_and, nod_agg, nodL_ints, nd_no, nodL_imm, nodL_arr]; subst hK hQ) | refine Jr.go ?_) | refine sd ?_)
   refine call_of c17' ?_
   repeat (first | (with_reducible first | refine Ju.go ?_ | (refine Hd.go ?_; intro K Q hK hQ; simp only [nod_imm, e_not, Bool.not_true, List.getD_cons_succ, List.getD_cons_zero, nod_cptr, nod_ints, nd_no, e_ldcA, lv_cons, List.length_nil, Nat.zero_add, Nat.reduceAdd, nod_agg, List.map_cons, nodL_ints, nodL_imm, nodL_arr, List.map_nil, true_and, e_gF, cond_false]; subst hK hQ) | refine Jr.go ?_) | refine sd ?_)
   refine call_of c18' ?_
   repeat (first | (with_reducible first | refine Ju.go ?_ | (refine Hd.go ?_; intro K Q hK hQ; simp only [Bool.and_self, nod_imm, e_not, Bool.not_true, List.getD_cons_zero, List.getD_cons_succ, e_cond, Bool.false_eq_true, if_false, nod_cptr, e_ldcA, lv_cons, List.length_nil, Nat.zero_add, Nat.reduceAdd, true_and, nod_agg, List.map_cons, nodL_ints, nd_no, nodL_imm, nodL_arr, List.map_nil, nod_ints]; subst hK hQ) | refine Jr.go ?_) | refine sd ?_)
   refine call_of (c19 s ph H w0 hs hl4 hli) ?_
   have hln := sylP_len s ph
   generalize sylP s ph = x at *
   repeat (first | (with_reducible first | refine Ju.go ?_ | (refine Hd.go ?_; intro K Q hK hQ; simp only [nod2_arr, Fl.nd, List.getD_cons_succ, List.getD_cons_zero, nod_imm, e_neq, decide_true, Bool.not_true, nod_arr, Try.underlying3, e_lenA, List.length_map, e_gF, cond_false, j_one, e_cond, Bool.false_eq_true, if_false]; subst hK hQ) | refine Jr.go ?_) | refine sd ?_)
   refine loop_of (fun i : Nat => i ≤ x.length) (fun i => [.arr (x.map syV) .no, .arr (x.map syV) .no, I i]) (fun _ => H) (fun i => x.length - i) 0 (Nat.zero_le _) rfl rfl ?_
   intro i hi
   repeat (first | (with_reducible first | refine Ju.go ?_ | (refine Hd.go ?_; intro K Q hK hQ; simp only [List.getD_cons_zero, nod_arr, nd_no, e_lenA, List.length_map, List.getD_cons_succ, nod_imm, Try.underlying3, e_lss, e_cond, decide_eq_true_eq]; subst hK hQ) | refine Jr.go ?_) | refine sd ?_)
   by_cases hlt : i < x.length
   ·have d : (i : Int) < x.length := by omega
    repeat (first | (with_reducible first | refine Ju.go ?_ | (refine Hd.go ?_; intro K Q hK hQ; simp only [d, if_true, List.getD_cons_zero, nod_arr, nd_no, List.getD_cons_succ, nod_imm, ix_sy, Int.toNat_natCast, true_and, nod_cptr, e_ldcA, lv_cons, List.length_nil, Nat.zero_add, Nat.reduceAdd, nod_agg, List.map_cons, nodL_imm, List.map_nil]; subst hK hQ) | refine Jr.go ?_) | refine sd ?_)
    refine Eq.mpr (eq35n _ _) ?_
    rw [decide_eq_true rfl]
    repeat (first | (with_reducible first | refine Ju.go ?_ | (refine Hd.go ?_; intro K Q hK hQ; simp only [List.getD_cons_zero, List.getD_cons_succ, Bool.not_true, nod_imm, e_cond, Bool.false_eq_true, if_false, Try.underlying3, e_add]; subst hK hQ) | refine Jr.go ?_) | refine sd ?_)
    exact ⟨i + 1, hlt, rfl, rfl, by omega⟩
   ·have d : ¬ (i : Int) < x.length := by omega
    repeat (first | (with_reducible first | refine Ju.go ?_ | (refine Hd.go ?_; intro K Q hK hQ; simp only [d, if_false]; subst hK hQ) | refine Jr.go ?_) | refine sd ?_)
    refine call_of (c15 _) ?_
    repeat (first | (with_reducible first | refine Ju.go ?_ | (refine Hd.go ?_; intro K Q hK hQ; simp only []; subst hK hQ) | refine Jr.go ?_) | refine sd ?_)
    exact end1 (fzI _)
open Go.ChangeShapes Go.WideShapes Go.ChangeAt Go.RowKit
theorem own : ownKnob Try.prog.godebug = none := by kernel_rfl
theorem laidOut : laidOutB Try.prog = true := by kernel_rfl
set_option maxRecDepth 100000 in
theorem lifted (os : Os) (started : os.Started) (H : Type) (enc : TypeId × Value → H) :
    ReturnsInHanded {} Try.checked os 3 .any (Rows.prosodySyllablesSpec.pre6 enc Try.prog Try.f3 Rows.prosodySyllablesRow.domain false) (Rows.prosodySyllablesSpec.post enc Try.prog Try.f3 false true false false) := by
  refine returnsInHanded_of_change (C := Try.checked) own started (by kernel_rfl) Try.func3
    (ChangeSpec.witness6 (enc := enc) (C := Try.checked) false ⟨#[], #[.agg #[.slice none 0 0, .int .i64 0, .slice none 0 0], .slice none 0 0], []⟩ 8 (by kernel_rfl) (by kernel_rfl) (by kernel_rfl) (by kernel_rfl)) ?_
  intro W base args ds gs before hval0 hW hcnd _
  have hval : ∀ (j : Nat) t v, Try.f3.params[j]? = some t → args[j]? = some v → Value.okWide Try.prog W .any base t v := hval0
  have hW' := hW
  obtain ⟨p, q, hA0, hV, rfl, hfz, hnd⟩ := hW
  have hA : DataW.TrodAll enc Try.prog W 0 (fun _ => true) true Try.f3.params.toList args.toList ds p := hA0
  rw [Try.params3] at hA hval
  obtain ⟨v0, vs0, d0, ds0, p0, q0, hargs, rfl, rfl, h0, r0⟩ := trodAll_cons hA
  obtain ⟨v1, vs1, d1, ds1, p1, q1, rfl, rfl, rfl, h1, r1⟩ := trodAll_cons r0
  obtain ⟨rfl, rfl, rfl⟩ := trodAll_nil r1
  obtain rfl : args = #[v0, v1] := by cases args; simp_all
  obtain ⟨rfl, rfl⟩ := trodVars_none hV
  have lt0 : ∀ x ∈ p0, x.block < W.heap.size := by obtain ⟨m, hm⟩ := h0; exact DataW.trod_lt m _ _ _ hm
  obtain ⟨l0, w0, e0⟩ := in_sou (hval 0 _ v0 rfl rfl) h0
  have lt1 : ∀ x ∈ p1, x.block < W.heap.size := by obtain ⟨m, hm⟩ := h1; exact DataW.trod_lt m _ _ _ hm
  obtain ⟨l1, w1, e1⟩ := in_is (hval 1 _ v1 rfl rfl) h1
  clear hA0 hval0
  refine (bridge (args := [souV l0, ints l1 .no]) (ra := #[v0, v1]) (c3 l0 l1 [] w0 w1) rfl (by intro a ha; simp at ha; rcases ha with rfl | rfl <;> rfl) (fun i => ?_)).mono fun e W' ⟨he, bel⟩ => ?_
  · match i with
    | 0 => exact e0
    | 1 => exact e1
    | i + 2 => exact .junk _
  · subst he
    exact ⟨_, rfl, _, _, _, [], _, [], hW', trodAll_mk1 (shut_bool Try.underlying4 _), (trodAll_cons_mk (Below.trod laidOut (by kernel_rfl) (of_decide_eq_true (by kernel_rfl)) h0 bel lt0) (trodAll_cons_mk (Below.trod laidOut (by kernel_rfl) (of_decide_eq_true (by kernel_rfl)) h1 bel lt1) trodAll_mk0)), rfl, bel.frame _, fun h => by cases h⟩
theorem over : Rows.prosodySyllablesRow.holds Try.pinned (OpenSpec.ofChange Rows.prosodySyllablesSpec) :=
 OpenClaim.holds_of_wide 3 Try.f3 rfl rfl rfl rfl rfl rfl rfl ⟨rfl, rfl, rfl, rfl, rfl⟩ rfl rfl rfl rfl rfl (by kernel_rfl) Try.func3 (by kernel_rfl)
  (of_decide_eq_true (by kernel_rfl)) (by unfold Func.isWrapper; first | (rw [if_pos (by decide +kernel)]; kernel_rfl) | (rw [if_neg (by decide +kernel)]; exact ⟨rfl, rfl⟩))
  (fun os started H enc _ => lifted os started H enc)
theorem prosodySyllables_holds : Rows.ProsodySyllablesSaid := over
#print axioms prosodySyllables_holds
end Go.Proofs.Ytgicpobploinhaa
