/- Whatever is done, the samples and the news are the same if they are asked for in other portions: true for every input. -/
import Derived.Test.YtlnjhnemmemloaaP6
import Derived.Test.YtlnjhnemmemloaaProg
import Derived.Test.YtlnjhnemmemloaaRows
set_option linter.unusedVariables false
set_option maxRecDepth 20000
set_option maxHeartbeats 4000000
namespace Go.Proofs.Ytlnjhnemmemloaa
open Go Go.Ab Go.Proofs
def an10 : An := { imm := [7, 9, 60, 73, 78, 83, 92, 101, 102], jn := [(2, [0, 1, 2, 27]), (5, [1, 2, 7, 8, 9, 10]), (6, [1, 2, 7, 9, 44]), (11, [1, 2, 7, 9, 11, 12, 13]), (12, [1, 2, 7, 9, 11, 12, 13, 14, 15]), (13, [1, 2, 7, 9, 11, 104])], lp := [(8, [1, 2, 7, 9, 11])], loud := [60, 73, 78, 83, 92, 101, 102], ord := [] }
def vc10 (C : Cb) (a0 a1 a2 : V) (H : Hp) (R : List V → Hp → Prop) : Prop :=
 Jn (fun l1 H2 =>
 aCond (l1.getD 3 .junk).nod (
 C.callE 15 [] H2 fun v4 H5 =>
 R [v4] H5) (
 C.callE 21 [(l1.getD 0 .junk).nod.nod] H2 fun v6 H7 =>
 C.aExt 0 v6.nod.nod fun v8 =>
 C.aExt 1 v6.nod.nod fun v9 =>
 C.aBx true 3 v8.nod H7 fun v10 H11 =>
 Jn (fun l12 H13 =>
 Jn (fun l15 H16 =>
 aCond (l15.getD 4 .junk).nod (
 R [(B false)] H16) (
 LoopA (fun l18 H19 K20 =>
 C.aLen (l18.getD 0 .junk).nod.nod fun v21 =>
 C.aBin (Try.prog.underlying 3) .lss (l18.getD 4 .junk).nod.nod v21.nod fun v22 =>
 aCond v22.nod (
 Jn (fun l23 H24 =>
 Jn (fun l26 H27 =>
 Jn (fun l29 H30 =>
 aCond (l29.getD 5 .junk).nod (
 R [(B false)] H30) (
 C.aBin (Try.prog.underlying 3) .add (l29.getD 4 .junk).nod.nod (I 1) fun v32 =>
 K20 [(l29.getD 0 .junk), (l29.getD 1 .junk), (l29.getD 2 .junk), (l29.getD 3 .junk), v32] H30))
 (fun R31 =>
 C.callE 24 [(l26.getD 5 .junk).nod.nod, (l26.getD 7 .junk).nod.nod] H27 fun v33 H34 =>
 C.aUn .not v33.nod fun v35 =>
 Jv (fun v36 H37 =>
 Jv (fun v42 H43 =>
 Jv (fun v55 H56 =>
 R31 [(l26.getD 0 .junk), (l26.getD 1 .junk), (l26.getD 2 .junk), (l26.getD 3 .junk), (l26.getD 4 .junk), v55] H56)
 (fun R57 =>
 aG v42.nod false (
 C.aFA 1 1 false (l26.getD 2 .junk).nod fun v58 =>
 C.aLd 1 false false v58.nod H43 fun v59 H60 =>
 C.calm 37 [v59.nod] H60 fun v61 =>
 C.aFA 1 1 false (l26.getD 3 .junk).nod fun v62 =>
 C.aLd 1 false false v62.nod H60 fun v63 H64 =>
 C.callE 37 [v63.nod] H64 fun v65 H66 =>
 C.callE 24 [v61.nod, v65.nod] H66 fun v67 H68 =>
 C.aUn .not v67.nod fun v69 =>
 R57 v69.nod H68) (
 R57 (B true) H43)))
 (fun R44 =>
 aG v36.nod false (
 C.aFA 1 1 false (l26.getD 2 .junk).nod fun v45 =>
 C.aLd 1 false false v45.nod H37 fun v46 H47 =>
 C.calm 36 [v46.nod] H47 fun v48 =>
 C.aFA 1 1 false (l26.getD 3 .junk).nod fun v49 =>
 C.aLd 1 false false v49.nod H47 fun v50 H51 =>
 C.callE 36 [v50.nod] H51 fun v52 H53 =>
 C.aBin (Try.prog.underlying 3) .neq v48.nod v52.nod fun v54 =>
 R44 v54.nod H53) (
 R44 (B true) H37)))
 (fun R38 =>
 aG v35.nod false (
 C.callE 32 [(l26.getD 6 .junk).nod.nod, (l26.getD 8 .junk).nod.nod] H34 fun v39 H40 =>
 C.aUn .not v39.nod fun v41 =>
 R38 v41.nod H40) (
 R38 (B true) H34))))
 (fun R28 =>
 C.aFA 1 1 false (l23.getD 3 .junk).nod fun v70 =>
 C.aLd 1 false false v70.nod H24 fun v71 H72 =>
 C.aFA 0 1 false (l23.getD 3 .junk).nod fun v73 =>
 C.aLd 1 false false v73.nod H72 fun v74 H75 =>
 C.aIx 10 (l23.getD 0 .junk).nod.nod (l23.getD 4 .junk).nod.nod fun v76 =>
 C.aLd 10 true false v76.nod H75 fun v77 H78 =>
 C.callE 34 [v71.nod, v74.nod, v77.nod, (l23.getD 1 .junk).nod.nod] H78 fun v79 H80 =>
 C.aExt 0 v79.nod.nod fun v81 =>
 C.aExt 1 v79.nod.nod fun v82 =>
 R28 [(l23.getD 0 .junk), (l23.getD 1 .junk), (l23.getD 2 .junk), (l23.getD 3 .junk), (l23.getD 4 .junk), (l23.getD 5 .junk), (l23.getD 6 .junk), v81, v82] H80))
 (fun R25 =>
 C.aFA 1 1 false (l18.getD 2 .junk).nod fun v83 =>
 C.aLd 1 false false v83.nod H19 fun v84 H85 =>
 C.aFA 0 1 false (l18.getD 2 .junk).nod fun v86 =>
 C.aLd 1 false false v86.nod H85 fun v87 H88 =>
 C.aIx 10 (l18.getD 0 .junk).nod.nod (l18.getD 4 .junk).nod.nod fun v89 =>
 C.aLd 10 true false v89.nod H88 fun v90 H91 =>
 C.callE 34 [v84.nod, v87.nod, v90.nod, (I 100)] H91 fun v92 H93 =>
 C.aExt 0 v92.nod.nod fun v94 =>
 C.aExt 1 v92.nod.nod fun v95 =>
 R25 [(l18.getD 0 .junk), (l18.getD 1 .junk), (l18.getD 2 .junk), (l18.getD 3 .junk), (l18.getD 4 .junk), v94, v95] H93)) (
 C.callE 15 [] H19 fun v96 H97 =>
 R [v96] H97))
 [(l15.getD 0 .junk), (l15.getD 1 .junk), (l15.getD 2 .junk), (l15.getD 3 .junk), (I 0)] H16))
 (fun R17 =>
 C.aUn .not (l12.getD 3 .junk).nod.nod fun v98 =>
 Jv (fun v99 H100 =>
 R17 [(l12.getD 0 .junk), (l12.getD 1 .junk), (l12.getD 2 .junk), (l12.getD 4 .junk), v99] H100)
 (fun R101 =>
 aG v98.nod false (
 C.aUn .not (l12.getD 5 .junk).nod.nod fun v102 =>
 R101 v102.nod H13) (
 R101 (B true) H13))))
 (fun R14 =>
 C.callE 21 [(l1.getD 0 .junk).nod.nod] H11 fun v103 H104 =>
 C.aExt 0 v103.nod.nod fun v105 =>
 C.aExt 1 v103.nod.nod fun v106 =>
 C.aBx true 3 v105.nod H104 fun v107 H108 =>
 R14 [(l1.getD 1 .junk), (l1.getD 2 .junk), v10, v9, v107, v106] H108)))
 (fun R3 =>
 C.callE 33 [a0.nod.nod, a1.nod.nod, (I 20)] H fun v109 H110 =>
 C.aUn .not v109.nod fun v111 =>
 Jv (fun v112 H113 =>
 Jv (fun v116 H117 =>
 R3 [a0, a1, a2, v116] H117)
 (fun R118 =>
 aG v112.nod false (
 C.aBin (Try.prog.underlying 3) .gtr a2.nod.nod (I 100) fun v119 =>
 R118 v119.nod H113) (
 R118 (B true) H113)))
 (fun R114 =>
 aG v111.nod false (
 C.aBin (Try.prog.underlying 3) .lss a2.nod.nod (I 1) fun v115 =>
 R114 v115.nod H110) (
 R114 (B true) H110)))
theorem wf10 : (Nat.ble 3 Try.f10.ntmps && wfC an10 Try.f10.ntmps (Try.f10.body.getD .skip)) = true := by kernel_rfl
theorem tie10 (C : Cb) (a0 a1 a2 : V) (H : Hp) (R : List V → Hp → Prop) : wpG Try.prog C an10 (Try.f10.body.getD .skip) (argF [a0, a1, a2]) H (retG Try.prog C Try.f10 R) (fun _ _ _ => False) (retG Try.prog C Try.f10 R) = vc10 C a0 a1 a2 H R := by kernel_rfl
theorem mk10 (a0 a1 a2 : V) {H : Hp} {v : V} {H1 : Hp} (hd : v.Nd) (hn : H.length ≤ H1.length) (hb : H1 = H ∨ ∀ (b : Nat) (blk : Blk), H1[b]? = some blk → H[b]? = some blk ∨ BelB H1.length blk) (h : vc10 (real Try.prog) a0 a1 a2 H (retF v H1)) : Ret Try.prog 10 [a0, a1, a2] H v H1 :=
 ret_mk (an := an10) hm Try.call10 Try.func10 rfl wf10 hd hn hb (Eq.mpr (tie10 (real Try.prog) a0 a1 a2 H (retF v H1)) h)
theorem mkE10 (a0 a1 a2 : V) {H : Hp} {Q : V → Hp → Prop} (h : vc10 (real Try.prog) a0 a1 a2 H (retW Q)) : RetE Try.prog 10 [a0, a1, a2] H Q :=
 retE_mk (an := an10) hm Try.call10 Try.func10 rfl wf10 (Eq.mpr (tie10 (real Try.prog) a0 a1 a2 H (retW Q)) h)
theorem mko10 (a0 a1 a2 : V) {H : Hp} {xs : List V} {H1 : Hp} (hn : H.length ≤ H1.length) (hb : H1 = H ∨ ∀ (b : Nat) (blk : Blk), H1[b]? = some blk → H[b]? = some blk ∨ BelB H1.length blk) (h : vc10 (real Try.prog) a0 a1 a2 H (retO xs H1)) : Ret Try.prog 10 [a0, a1, a2] H (.arr xs .own) H1 :=
 ret_mko (an := an10) (t := 6) hm Try.call10 Try.func10 rfl wf10 rfl hn hb (Eq.mpr (tie10 (real Try.prog) a0 a1 a2 H (retO xs H1)) h)
end Go.Proofs.Ytlnjhnemmemloaa
set_option linter.unusedSimpArgs false
set_option linter.unnecessarySimpa false
set_option maxHeartbeats 2000000
namespace Go.Proofs.Ytlnjhnemmemloaa
open Go Go.Ab Go.Proofs
attribute [local congr] g_bin g_nilS g_nilP g_un g_ext g_bx g_fa g_ld g_st g_ix g_ixA g_slc g_mk g_bs g_bd g_nc g_cv g_len g_lenT g_app g_appB g_cpy g_mm g_call g_callG g_calm g_calmG g_range g_res g_pick g_cond g_loop g_Jv g_eqS g_eqP g_fd g_ixT g_ta g_lkp g_upd g_mkM g_appS g_inv g_callE g_callEG g_invE g_zr g_wr
theorem c10 (gr : List Gn) (l : List Ac) (by' : Int) (H : Hp) (w0 : gr.length ≤ 9223372036854775807) (w1 : l.length ≤ 9223372036854775807 ∧ ∀ a, a ∈ l → Sm a.p) : Ret Try.prog 10 [.arr (gr.map gnV) .no, .arr (l.map acV) .no, I by'] H (B true) H := by
 refine mk10 _ _ _ rfl (Nat.le_refl _) (.inl rfl) ?_
 simp only [vc10, real]
 repeat (first | (with_reducible first | refine Ju.go ?_ | (refine Hd.go ?_; intro K Q hK hQ; simp only [nod_arr, nd_no]; subst hK hQ) | refine Jr.go ?_) | refine sd ?_)
 refine call_of (c33 gr l 20 _ w0 w1.1 w1.2) ?_
 cases hf : fitB gr.length l.length 20 l
 ·repeat (first | (with_reducible first | refine Ju.go ?_ | (refine Hd.go ?_; intro K Q hK hQ; simp only [nod_imm, e_not, Bool.not_false, Try.underlying3, e_lss, e_gF, cond_true, j_one, e_gtr, List.getD_cons_succ, List.getD_cons_zero, e_cond, if_true]; subst hK hQ) | refine Jr.go ?_) | refine sd ?_)
  refine call_of (c15x _) ?_
  repeat (first | (with_reducible first | refine Ju.go ?_ | (refine Hd.go ?_; intro K Q hK hQ; simp only []; subst hK hQ) | refine Jr.go ?_) | refine sd ?_)
  exact end1 (fzI _)
 ·unfold fitB at hf
  simp only [Bool.and_eq_true, Bool.not_eq_true', Bool.or_eq_false_iff, decide_eq_false_iff_not] at hf
  have hgl : gr.length ≤ 8 := by omega
  have hll : l.length ≤ 20 := by omega
  by_cases hby : by' < 1 ∨ 100 < by'
  ·have n1 : (decide (by' < 1) || decide ((100 : Int) < by')) = true := by
    simp only [Bool.or_eq_true, decide_eq_true_eq]; omega
   repeat (first | (with_reducible first | refine Ju.go ?_ | (refine Hd.go ?_; intro K Q hK hQ; simp only [nod_imm, e_not, Bool.not_true, Try.underlying3, e_lss, e_gF, cond_false, j_one, e_gtr, j_or', n1, List.getD_cons_succ, List.getD_cons_zero, e_cond, if_true]; subst hK hQ) | refine Jr.go ?_) | refine sd ?_)
   refine call_of (c15x _) ?_
   repeat (first | (with_reducible first | refine Ju.go ?_ | (refine Hd.go ?_; intro K Q hK hQ; simp only []; subst hK hQ) | refine Jr.go ?_) | refine sd ?_)
   exact end1 (fzI _)
  ·have n1 : ¬ by' < 1 := by omega
   have n2 : ¬ (100 : Int) < by' := by omega
   repeat (first | (with_reducible first | refine Ju.go ?_ | (refine Hd.go ?_; intro K Q hK hQ; simp only [nod_imm, e_not, Bool.not_true, Try.underlying3, e_lss, n1, decide_false, e_gF, cond_false, j_one, e_gtr, n2, List.getD_cons_succ, List.getD_cons_zero, e_cond, Bool.false_eq_true, if_false, nod_arr, nd_no]; subst hK hQ) | refine Jr.go ?_) | refine sd ?_)
   refine callE_of (c21 gr _ hgl) ?_
   rintro v G1 ⟨l1, s1, r1, w1', bw1, a1, rfl, B1⟩
   repeat (first | (with_reducible first | refine Ju.go ?_ | (refine Hd.go ?_; intro K Q hK hQ; simp only [nod_tup, List.map_cons, nod2_agg, nodL_ptr, List.map_nil, nod2_imm, e_x20, e_x21, nod_agg, e_bxI, okE_agg, lv_cons, List.length_nil, Nat.zero_add, Nat.reduceAdd, all_c, ck_ptr, all_n, Bool.and_self, and_true, true_and, List.getD_cons_zero, nod_arr, nd_no]; subst hK hQ) | refine Jr.go ?_) | refine sd ?_)
   refine callE_of (c21 gr _ hgl) ?_
   rintro v G2 ⟨l2, s2, r2, w2', bw2, a2, rfl, B2⟩
   have T := Two.mk' B1 B2
   have hl1 := B1.lb
   have hl2 := B2.lb
   clear B1 B2
   repeat (first | (with_reducible first | refine Ju.go ?_ | (refine Hd.go ?_; intro K Q hK hQ; simp only [nod_tup, List.map_cons, nod2_agg, nodL_ptr, List.map_nil, nod2_imm, e_x20, e_x21, nod_agg, e_bxI, okE_agg, lv_cons, List.length_nil, Nat.zero_add, Nat.reduceAdd, all_c, ck_ptr, all_n, Bool.and_self, and_true, true_and, List.getD_cons_succ, List.getD_cons_zero, nod_imm, e_not, Bool.not_true, e_gF, cond_false, j_one, e_cond, Bool.false_eq_true, if_false]; subst hK hQ) | refine Jr.go ?_) | refine sd ?_)
   refine loop_of (fun q : Nat × Ad × Ad × Mo × Hp => q.1 ≤ l.length ∧ q.2.1.lb = l1 ∧ q.2.2.1.lb = l2 ∧ Two H q.2.2.2.2 s1 q.2.1 q.2.2.2.1 s2 q.2.2.1 q.2.2.2.1 ∧ Mok q.2.2.2.1 ∧ Con 0 q.2.2.2.1 ∧ q.2.2.2.1.q.length ≤ q.1 ∧ 0 ≤ q.2.2.2.1.nx ∧ q.2.2.2.1.nx ≤ q.1 ∧ q.2.2.2.1.ck ≤ 100 * q.1) (fun q => [.arr (l.map acV) .no, I by', .cptr (.agg [.ptr l1 0, .ptr s1 0, .ptr r1 0]), .cptr (.agg [.ptr l2 0, .ptr s2 0, .ptr r2 0]), I q.1]) (·.2.2.2.2) (fun q => l.length - q.1) (0, a1, a2, mo0 (gsOf gr), G2) ⟨Nat.zero_le _, hl1, hl2, T, mo0_Mok hgl, ⟨by show ((0 : Nat) : Int) + (0 : Nat) ≤ sumG (gsOf gr); exact (sumG_rng fun g hg => (mo0_Mok hgl).gs g hg).1⟩, Nat.zero_le _, Int.le_refl _, Int.le_refl _, Int.le_refl _⟩ rfl rfl ?_
   clear T hl1 hl2
   rintro ⟨i, a, b, m, G⟩ ⟨hi, hl1, hl2, hT, hM, hC, hq, hn0, hn1, hck⟩
   simp only at hi hl1 hl2 hT hM hC hq hn0 hn1 hck ⊢
   repeat (first | (with_reducible first | refine Ju.go ?_ | (refine Hd.go ?_; intro K Q hK hQ; simp only [List.getD_cons_zero, nod_arr, nd_no, e_lenA, List.length_map, List.getD_cons_succ, nod_imm, Try.underlying3, e_lss, e_cond, decide_eq_true_eq]; subst hK hQ) | refine Jr.go ?_) | refine sd ?_)
   by_cases hlt : i < l.length
   ·have d : (i : Int) < l.length := by omega
    have hs := w1.2 _ (getD_memA l default hlt)
    obtain ⟨c1, -, -, c4, c5, c6, c7, c8⟩ := con_act (l.getD i default) hC
    repeat (first | (with_reducible first | refine Ju.go ?_ | (refine Hd.go ?_; intro K Q hK hQ; simp only [d, if_true, List.getD_cons_succ, List.getD_cons_zero, nod_cptr, e_fac, Nat.reduceAdd, lv_cons, List.length_nil, Nat.zero_add, Nat.reduceLeDiff, true_and, e_ldcP, nod_arr, nd_no, nod_imm, ix_ac, Int.toNat_natCast, e_ldcA, nod_ptr, nod_agg, List.map_cons, nodL_imm, nodL_ints, nodL_arr, List.map_nil]; subst hK hQ) | refine Jr.go ?_) | refine sd ?_)
    rw [← hl1]
    refine callE_of (c34 (l.getD i default) 100 hT.x hM hs (by omega) ⟨hn0, by omega⟩ (by omega) (by decide)) ?_
    rintro v G3 ⟨f, g, hf1, hg1, rfl, ⟨a3, st3⟩, hM3, hnl⟩
    have T3 := hT.step st3
    have hl3 := st3.lk.trans hl1
    clear st3 hT
    rw [hl1]
    have q1 := nd_of hf1
    have q2 := nd_of hg1
    have n2' : (V.arr ((actN (l.getD i default) m).map nwV) g).nod2 = .arr ((actN (l.getD i default) m).map nwV) g := by rcases hg1 with rfl | rfl <;> rfl
    repeat (first | (with_reducible first | refine Ju.go ?_ | (refine Hd.go ?_; intro K Q hK hQ; simp only [nod_tup, List.map_cons, nod2_ints, q1, n2', List.map_nil, e_x20, e_x21, List.getD_cons_zero, List.getD_cons_succ, nod_cptr, e_fac, Nat.reduceAdd, lv_cons, List.length_nil, Nat.zero_add, Nat.reduceLeDiff, true_and, e_ldcP, nod_arr, nd_no, nod_imm, ix_ac, d, Int.toNat_natCast, e_ldcA, nod_ptr, nod_agg, nodL_imm, nodL_ints, nodL_arr]; subst hK hQ) | refine Jr.go ?_) | refine sd ?_)
    rw [← hl2]
    refine callE_of (c34 (l.getD i default) by' T3.y hM hs (by omega) ⟨hn0, by omega⟩ (by omega) (by omega)) ?_
    rintro v G4 ⟨f', g', hf2, hg2, rfl, ⟨a4, st4⟩, -, -⟩
    have T4 := (T3.swap.step st4).swap
    have hl4 := st4.lk.trans hl2
    clear st4 T3
    rw [hl2]
    have q3 := nd_of hf2
    have q4 := nd_of hg2
    generalize actX (l.getD i default) m = xs at *
    generalize actN (l.getD i default) m = ns at *
    generalize mAct (l.getD i default) m = m2 at *
    have n3 : (V.arr (ns.map nwV) g').nod2 = .arr (ns.map nwV) g' := by rcases hg2 with rfl | rfl <;> rfl
    repeat (first | (with_reducible first | refine Ju.go ?_ | (refine Hd.go ?_; intro K Q hK hQ; simp only [nod_tup, List.map_cons, nod2_ints, q3, n3, List.map_nil, e_x20, e_x21, List.getD_cons_zero, List.getD_cons_succ, nod_ints, q1]; subst hK hQ) | refine Jr.go ?_) | refine sd ?_)
    refine call_of (c24 xs xs f f' _ (by omega) hf1 hf2) ?_
    rw [decide_eq_true rfl]
    repeat (first | (with_reducible first | refine Ju.go ?_ | (refine Hd.go ?_; intro K Q hK hQ; simp only [nod_imm, e_not, Bool.not_true, List.getD_cons_succ, List.getD_cons_zero, nod_arr, q2, q4, e_gF, cond_false]; subst hK hQ) | refine Jr.go ?_) | refine sd ?_)
    refine call32 hg1 hg2 ns ns _ (by omega) ?_
    rw [decide_eq_true rfl]
    have calm : ∀ L, SpAt (G4 ++ L) s1 a3 m2 := fun L => T4.x.fr (Fr.app G4 L (fun _ => False)) fun _ _ e => e
    repeat (first | (with_reducible first | refine Ju.go ?_ | (refine Hd.go ?_; intro K Q hK hQ; simp only [nod_imm, e_not, Bool.not_true, List.getD_cons_succ, List.getD_cons_zero, nod_cptr, Try.underlying3, e_fac, Nat.reduceAdd, lv_cons, List.length_nil, Nat.zero_add, Nat.reduceLeDiff, e_ldcP, nod_ptr, true_and, e_gF, cond_false]; subst hK hQ) | refine Jr.go ?_) | refine sd ?_)
    refine ⟨_, fun L => c36 (calm L), ?_⟩
    repeat (first | (with_reducible first | refine Ju.go ?_ | (refine Hd.go ?_; intro K Q hK hQ; simp only []; subst hK hQ) | refine Jr.go ?_) | refine sd ?_)
    refine call_of (c36 T4.y) ?_
    repeat (first | (with_reducible first | refine Ju.go ?_ | (refine Hd.go ?_; intro K Q hK hQ; simp only [nod_imm, e_neq, decide_true, Bool.not_true, List.getD_cons_succ, List.getD_cons_zero, nod_cptr, e_fac, Nat.reduceAdd, lv_cons, List.length_nil, Nat.zero_add, Nat.reduceLeDiff, e_ldcP, nod_ptr, true_and, e_gF, cond_false]; subst hK hQ) | refine Jr.go ?_) | refine sd ?_)
    refine ⟨_, fun L => c37 (calm L) (by omega), ?_⟩
    repeat (first | (with_reducible first | refine Ju.go ?_ | (refine Hd.go ?_; intro K Q hK hQ; simp only []; subst hK hQ) | refine Jr.go ?_) | refine sd ?_)
    refine call_of (c37 T4.y (by omega)) ?_
    repeat (first | (with_reducible first | refine Ju.go ?_ | (refine Hd.go ?_; intro K Q hK hQ; simp only [nod_ints, nd_no]; subst hK hQ) | refine Jr.go ?_) | refine sd ?_)
    refine call_of (c24 _ _ .no .no _ (by rw [List.length_map]; omega) (.inl rfl) (.inl rfl)) ?_
    rw [decide_eq_true rfl]
    repeat (first | (with_reducible first | refine Ju.go ?_ | (refine Hd.go ?_; intro K Q hK hQ; simp only [nod_imm, e_not, Bool.not_true, List.getD_cons_zero, List.getD_cons_succ, e_cond, Bool.false_eq_true, if_false, Try.underlying3, e_add]; subst hK hQ) | refine Jr.go ?_) | refine sd ?_)
    exact ⟨(i + 1, a3, a4, m2, G4), ⟨by show i + 1 ≤ l.length; omega, hl3, hl4, T4, hM3, c1.mono (Nat.zero_le _), by show m2.q.length ≤ i + 1; omega, by show 0 ≤ m2.nx; omega, by show m2.nx ≤ ((i + 1 : Nat) : Int); omega, by show m2.ck ≤ 100 * ((i + 1 : Nat) : Int); omega⟩, rfl, rfl, by show l.length - (i + 1) < l.length - i; omega⟩
   ·have d : ¬ (i : Int) < l.length := by omega
    repeat (first | (with_reducible first | refine Ju.go ?_ | (refine Hd.go ?_; intro K Q hK hQ; simp only [d, if_false]; subst hK hQ) | refine Jr.go ?_) | refine sd ?_)
    refine call_of (c15x _) ?_
    repeat (first | (with_reducible first | refine Ju.go ?_ | (refine Hd.go ?_; intro K Q hK hQ; simp only []; subst hK hQ) | refine Jr.go ?_) | refine sd ?_)
    exact end1T (fzI _) (take_low hT.lo hT.ln)
open Go.ChangeShapes Go.WideShapes Go.ChangeAt Go.RowKit
theorem own : ownKnob Try.prog.godebug = none := by kernel_rfl
theorem laidOut : laidOutB Try.prog = true := by kernel_rfl
set_option maxRecDepth 100000 in
theorem lifted (os : Os) (started : os.Started) (H : Type) (enc : TypeId × Value → H) :
    ReturnsInHanded {} Try.checked os 10 .any (Rows.streamPortionsSpec.pre6 enc Try.prog Try.f10 Rows.streamPortionsRow.domain false) (Rows.streamPortionsSpec.post enc Try.prog Try.f10 false true false false) := by
  refine returnsInHanded_of_change (C := Try.checked) own started (by kernel_rfl) Try.func10
    (ChangeSpec.witness6 (enc := enc) (C := Try.checked) false ⟨#[], #[.slice none 0 0, .slice none 0 0, .int .i64 0], []⟩ 8 (by kernel_rfl) (by kernel_rfl) (by kernel_rfl) (by kernel_rfl)) ?_
  intro W base args ds gs before hval0 hW hcnd _
  have hval : ∀ (j : Nat) t v, Try.f10.params[j]? = some t → args[j]? = some v → Value.okWide Try.prog W .any base t v := hval0
  have hW' := hW
  obtain ⟨p, q, hA0, hV, rfl, hfz, hnd⟩ := hW
  have hA : DataW.TrodAll enc Try.prog W 0 (fun _ => true) true Try.f10.params.toList args.toList ds p := hA0
  rw [Try.params10] at hA hval
  obtain ⟨v0, vs0, d0, ds0, p0, q0, hargs, rfl, rfl, h0, r0⟩ := trodAll_cons hA
  obtain ⟨v1, vs1, d1, ds1, p1, q1, rfl, rfl, rfl, h1, r1⟩ := trodAll_cons r0
  obtain ⟨v2, vs2, d2, ds2, p2, q2, rfl, rfl, rfl, h2, r2⟩ := trodAll_cons r1
  obtain ⟨rfl, rfl, rfl⟩ := trodAll_nil r2
  obtain rfl : args = #[v0, v1, v2] := by cases args; simp_all
  obtain ⟨rfl, rfl⟩ := trodVars_none hV
  have lt0 : ∀ x ∈ p0, x.block < W.heap.size := by obtain ⟨m, hm⟩ := h0; exact DataW.trod_lt m _ _ _ hm
  obtain ⟨l0, w0, e0⟩ := in_grants (hval 0 _ v0 rfl rfl) h0
  have lt1 : ∀ x ∈ p1, x.block < W.heap.size := by obtain ⟨m, hm⟩ := h1; exact DataW.trod_lt m _ _ _ hm
  obtain ⟨l1, w1, e1⟩ := in_acts (hval 1 _ v1 rfl rfl) h1
  have lt2 : ∀ x ∈ p2, x.block < W.heap.size := by obtain ⟨m, hm⟩ := h2; exact DataW.trod_lt m _ _ _ hm
  obtain ⟨n2, e2, w2⟩ := in_int Try.underlying3 (hval 2 _ v2 rfl rfl) h2
  clear hA0 hval0
  refine (bridge (args := [.arr (l0.map gnV) .no, .arr (l1.map acV) .no, I n2]) (ra := #[v0, v1, v2]) (c10 l0 l1 n2 [] w0 w1) rfl (by intro a ha; simp at ha; rcases ha with rfl | rfl | rfl <;> rfl) (fun i => ?_)).mono fun e W' ⟨he, bel⟩ => ?_
  · match i with
    | 0 => exact e0
    | 1 => exact e1
    | 2 => exact e2
    | i + 3 => exact .junk _
  · subst he
    exact ⟨_, rfl, _, _, _, [], _, [], hW', trodAll_mk1 (shut_bool Try.underlying4 _), (trodAll_cons_mk (Below.trod laidOut (by kernel_rfl) (of_decide_eq_true (by kernel_rfl)) h0 bel lt0) (trodAll_cons_mk (Below.trod laidOut (by kernel_rfl) (of_decide_eq_true (by kernel_rfl)) h1 bel lt1) (trodAll_cons_mk (Below.trod laidOut (by kernel_rfl) (of_decide_eq_true (by kernel_rfl)) h2 bel lt2) trodAll_mk0))), rfl, bel.frame _, fun h => by cases h⟩
theorem over : Rows.streamPortionsRow.holds Try.pinned (OpenSpec.ofChange Rows.streamPortionsSpec) :=
 OpenClaim.holds_of_wide 10 Try.f10 rfl rfl rfl rfl rfl rfl rfl ⟨rfl, rfl, rfl, rfl, rfl⟩ rfl rfl rfl rfl rfl (by kernel_rfl) Try.func10 (by kernel_rfl)
  (of_decide_eq_true (by kernel_rfl)) (by unfold Func.isWrapper; first | (rw [if_pos (by decide +kernel)]; kernel_rfl) | (rw [if_neg (by decide +kernel)]; exact ⟨rfl, rfl⟩))
  (fun os started H enc _ => lifted os started H enc)
theorem streamPortions_holds : Rows.StreamPortionsSaid := over
#print axioms streamPortions_holds
end Go.Proofs.Ytlnjhnemmemloaa
