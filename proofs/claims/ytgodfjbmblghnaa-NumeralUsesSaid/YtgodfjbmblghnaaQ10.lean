/- NumeralUses: for which numbers a rule is used, which number has the most words, and what is refused; no condition. -/
import Derived.Test.YtgodfjbmblghnaaS6
import Derived.Test.YtgodfjbmblghnaaProg
import Derived.Test.YtgodfjbmblghnaaRows
set_option linter.unusedVariables false
set_option maxRecDepth 20000
set_option maxHeartbeats 4000000
namespace Go.Proofs.Ytgodfjbmblghnaa
open Go Go.Ab Go.Proofs
def an10 : An := { imm := [4, 5], jn := [(2, [2, 3, 4, 5, 30]), (4, [2, 3, 4, 5, 9, 10]), (6, [2, 3, 4, 5, 9, 10, 11, 12, 13, 14]), (8, [2, 3, 4, 5, 9, 10, 11, 12, 13, 14, 15, 77]), (9, [2, 3, 4, 5, 9, 10, 11, 12, 13, 14, 15]), (11, [4, 5, 11, 12, 13, 14, 87]), (13, [4, 5, 11, 12, 13, 14, 99]), (14, [4, 5, 11, 12, 13, 14]), (16, [4, 5, 11, 12, 13]), (19, [11, 12, 13, 16, 17])], lp := [], loud := [], ord := [] }
def vc10 (C : Cb) (a0 a1 a2 a3 : V) (H : Hp) (R : List V → Hp → Prop) : Prop :=
 C.aBx true 7 a0.nod H fun v1 H2 =>
 C.aBx true 4 a1.nod H2 fun v3 H4 =>
 Jn (fun l5 H6 =>
 aCond (l5.getD 4 .junk).nod (
 C.callE 15 [] H6 fun v8 H9 =>
 R [v8] H9) (
 Jn (fun l10 H11 =>
 C.aLd 7 true false (l10.getD 2 .junk).nod H11 fun v13 H14 =>
 C.aLd 4 true false (l10.getD 3 .junk).nod H14 fun v15 H16 =>
 C.callE 34 [v13.nod, v15.nod] H16 fun v17 H18 =>
 C.aExt 0 v17.nod.nod fun v19 =>
 C.aExt 1 v17.nod.nod fun v20 =>
 C.aExt 2 v17.nod.nod fun v21 =>
 Jn (fun l22 H23 =>
 Jn (fun l25 H26 =>
 Jn (fun l28 H29 =>
 Jn (fun l31 H32 =>
 C.aLd 7 true false (l31.getD 0 .junk).nod H32 fun v34 H35 =>
 C.aLd 4 true false (l31.getD 1 .junk).nod H35 fun v36 H37 =>
 C.callE 36 [v34.nod, v36.nod] H37 fun v38 H39 =>
 C.aExt 0 v38.nod.nod fun v40 =>
 C.aExt 1 v38.nod.nod fun v41 =>
 Jn (fun l42 H43 =>
 C.aBin (Try.prog.underlying 29) .eql (l42.getD 2 .junk).nod.nod (I 0) fun v45 =>
 Jv (fun v46 H47 =>
 Jv (fun v50 H51 =>
 Jv (fun v54 H55 =>
 R [v54] H55)
 (fun R56 =>
 aG v50.nod true (
 C.callE 15 [] H51 fun v57 H58 =>
 R56 v57.nod H58) (
 R56 (B false) H51)))
 (fun R52 =>
 aG v46.nod true (
 C.aBin (Try.prog.underlying 3) .eql (l42.getD 1 .junk).nod.nod (l42.getD 4 .junk).nod.nod fun v53 =>
 R52 v53.nod H47) (
 R52 (B false) H47)))
 (fun R48 =>
 aG v45.nod true (
 C.aBin (Try.prog.underlying 3) .eql (l42.getD 0 .junk).nod.nod (l42.getD 3 .junk).nod.nod fun v49 =>
 R48 v49.nod H43) (
 R48 (B false) H43)))
 (fun R44 =>
 C.aBin (Try.prog.underlying 3) .lss v40.nod.nod (I 0) fun v59 =>
 aCond v59.nod (
 C.aBin (Try.prog.underlying 29) .eql (l31.getD 4 .junk).nod.nod (I 5) fun v60 =>
 Jv (fun v61 H62 =>
 Jv (fun v65 H66 =>
 Jv (fun v69 H70 =>
 R [v69] H70)
 (fun R71 =>
 aG v65.nod true (
 C.callE 15 [] H66 fun v72 H73 =>
 R71 v72.nod H73) (
 R71 (B false) H66)))
 (fun R67 =>
 aG v61.nod true (
 C.aBin (Try.prog.underlying 3) .eql (l31.getD 3 .junk).nod.nod (I 0) fun v68 =>
 R67 v68.nod H62) (
 R67 (B false) H62)))
 (fun R63 =>
 aG v60.nod true (
 C.aBin (Try.prog.underlying 3) .eql (l31.getD 2 .junk).nod.nod (I 0) fun v64 =>
 R63 v64.nod H39) (
 R63 (B false) H39))) (
 R44 [(l31.getD 2 .junk), (l31.getD 3 .junk), (l31.getD 4 .junk), v40, v41] H39)))
 (fun R33 =>
 C.aBin (Try.prog.underlying 29) .neq (l28.getD 5 .junk).nod.nod (I 0) fun v74 =>
 aCond v74.nod (
 C.aBin (Try.prog.underlying 29) .eql (l28.getD 4 .junk).nod.nod (l28.getD 5 .junk).nod.nod fun v75 =>
 Jv (fun v76 H77 =>
 Jv (fun v80 H81 =>
 Jv (fun v84 H85 =>
 R [v84] H85)
 (fun R86 =>
 aG v80.nod true (
 C.callE 15 [] H81 fun v87 H88 =>
 R86 v87.nod H88) (
 R86 (B false) H81)))
 (fun R82 =>
 aG v76.nod true (
 C.aBin (Try.prog.underlying 3) .eql (l28.getD 3 .junk).nod.nod (I 0) fun v83 =>
 R82 v83.nod H77) (
 R82 (B false) H77)))
 (fun R78 =>
 aG v75.nod true (
 C.aBin (Try.prog.underlying 3) .eql (l28.getD 2 .junk).nod.nod (I 0) fun v79 =>
 R78 v79.nod H29) (
 R78 (B false) H29))) (
 R33 [(l28.getD 0 .junk), (l28.getD 1 .junk), (l28.getD 2 .junk), (l28.getD 3 .junk), (l28.getD 4 .junk)] H29)))
 (fun R30 =>
 C.aBin (Try.prog.underlying 29) .neq (l25.getD 10 .junk).nod.nod (I 0) fun v89 =>
 aCond v89.nod (
 Jn (fun l90 H91 =>
 aCond (l90.getD 6 .junk).nod (
 R [(B false)] H91) (
 R30 [(l90.getD 0 .junk), (l90.getD 1 .junk), (l90.getD 2 .junk), (l90.getD 3 .junk), (l90.getD 4 .junk), (l90.getD 5 .junk)] H91))
 (fun R92 =>
 C.aBin (Try.prog.underlying 29) .neq (l25.getD 5 .junk).nod.nod (l25.getD 10 .junk).nod.nod fun v93 =>
 Jv (fun v94 H95 =>
 R92 [(l25.getD 2 .junk), (l25.getD 3 .junk), (l25.getD 6 .junk), (l25.getD 7 .junk), (l25.getD 8 .junk), (l25.getD 9 .junk), v94] H95)
 (fun R96 =>
 aG v93.nod false (
 C.aLen (l25.getD 4 .junk).nod.nod fun v97 =>
 C.aBin (Try.prog.underlying 3) .neq v97.nod (I 0) fun v98 =>
 R96 v98.nod H26) (
 R96 (B true) H26)))) (
 Jn (fun l99 H100 =>
 aCond (l99.getD 6 .junk).nod (
 R [(B false)] H100) (
 R30 [(l99.getD 0 .junk), (l99.getD 1 .junk), (l99.getD 2 .junk), (l99.getD 3 .junk), (l99.getD 4 .junk), (l99.getD 5 .junk)] H100))
 (fun R101 =>
 C.aBin (Try.prog.underlying 29) .neq (l25.getD 5 .junk).nod.nod (I 0) fun v102 =>
 Jv (fun v103 H104 =>
 R101 [(l25.getD 2 .junk), (l25.getD 3 .junk), (l25.getD 6 .junk), (l25.getD 7 .junk), (l25.getD 8 .junk), (l25.getD 9 .junk), v103] H104)
 (fun R105 =>
 aG v102.nod false (
 C.aLd 7 true false (l25.getD 2 .junk).nod H26 fun v106 H107 =>
 C.aLd 4 true false (l25.getD 3 .junk).nod H107 fun v108 H109 =>
 C.callE 35 [v106.nod, v108.nod, (l25.getD 0 .junk).nod.nod, (l25.getD 1 .junk).nod.nod] H109 fun v110 H111 =>
 C.callE 29 [(l25.getD 4 .junk).nod.nod, v110.nod] H111 fun v112 H113 =>
 C.aUn .not v112.nod fun v114 =>
 R105 v114.nod H113) (
 R105 (B true) H26))))))
 (fun R27 =>
 Jn (fun l115 H116 =>
 aCond (l115.getD 11 .junk).nod (
 R27 [(l115.getD 0 .junk), (l115.getD 1 .junk), (l115.getD 2 .junk), (l115.getD 3 .junk), (l115.getD 4 .junk), (l115.getD 5 .junk), (l115.getD 6 .junk), (l115.getD 7 .junk), (l115.getD 8 .junk), (l115.getD 9 .junk), (I 2)] H116) (
 R27 [(l115.getD 0 .junk), (l115.getD 1 .junk), (l115.getD 2 .junk), (l115.getD 3 .junk), (l115.getD 4 .junk), (l115.getD 5 .junk), (l115.getD 6 .junk), (l115.getD 7 .junk), (l115.getD 8 .junk), (l115.getD 9 .junk), (l115.getD 10 .junk)] H116))
 (fun R117 =>
 C.aBin (Try.prog.underlying 29) .neq (l22.getD 9 .junk).nod.nod.nod (I 2) fun v118 =>
 Jv (fun v119 H120 =>
 R117 [(l22.getD 0 .junk), (l22.getD 1 .junk), (l22.getD 2 .junk), (l22.getD 3 .junk), (l22.getD 4 .junk), (l22.getD 5 .junk), (l22.getD 6 .junk), (l22.getD 7 .junk), (l22.getD 8 .junk), (l22.getD 9 .junk), (l22.getD 9 .junk).nod, v119] H120)
 (fun R121 =>
 aG v118.nod true (
 C.aBin (Try.prog.underlying 3) .lss (l22.getD 0 .junk).nod.nod (I 0) fun v122 =>
 aG v122.nod false (
 C.aFA 6 1 false (l22.getD 2 .junk).nod fun v123 =>
 C.aLd 1 false false v123.nod H23 fun v124 H125 =>
 C.aLen v124.nod fun v126 =>
 C.aBin (Try.prog.underlying 3) .geq (l22.getD 0 .junk).nod.nod v126.nod fun v127 =>
 aG v127.nod.nod false (
 C.aBin (Try.prog.underlying 3) .lss (l22.getD 1 .junk).nod.nod (I 0) fun v128 =>
 aG v128.nod.nod false (
 C.aFA 6 1 false (l22.getD 2 .junk).nod fun v129 =>
 C.aLd 1 false false v129.nod H125 fun v130 H131 =>
 C.aIx 1 v130.nod (l22.getD 0 .junk).nod.nod fun v132 =>
 C.aLd 1 false false v132.nod H131 fun v133 H134 =>
 C.aLen v133.nod fun v135 =>
 C.aBin (Try.prog.underlying 3) .geq (l22.getD 1 .junk).nod.nod v135.nod fun v136 =>
 R121 v136.nod.nod H134) (
 R121 (B true) H125)) (
 R121 (B true) H125)) (
 R121 (B true) H23)) (
 UD = UD ∧
 UD = UD ∧
 UD = UD ∧
 UD = UD ∧
 UD = UD ∧
 UD = UD ∧
 UD = UD ∧
 UD = UD ∧
 UD = UD ∧
 UD = UD ∧
 UD = UD ∧
 UD = UD ∧
 UD = UD ∧
 UD = UD ∧
 UD = UD ∧
 R121 (B false) H23)))))
 (fun R24 =>
 C.aLd 7 true false (l10.getD 2 .junk).nod H18 fun v137 H138 =>
 C.aLd 4 true false (l10.getD 3 .junk).nod H138 fun v139 H140 =>
 C.callE 22 [v137.nod, v139.nod, (B true)] H140 fun v141 H142 =>
 R24 [(l10.getD 0 .junk), (l10.getD 1 .junk), (l10.getD 2 .junk), (l10.getD 3 .junk), (l10.getD 4 .junk), (l10.getD 5 .junk), v19, v20, v21, v141] H142))
 (fun R12 =>
 C.aLd 7 true false (l5.getD 2 .junk).nod H6 fun v143 H144 =>
 C.aLd 4 true false (l5.getD 3 .junk).nod H144 fun v145 H146 =>
 C.callE 32 [v143.nod, v145.nod, (l5.getD 0 .junk).nod.nod, (l5.getD 1 .junk).nod.nod] H146 fun v147 H148 =>
 C.aExt 0 v147.nod.nod fun v149 =>
 C.aExt 1 v147.nod.nod fun v150 =>
 R12 [(l5.getD 0 .junk), (l5.getD 1 .junk), (l5.getD 2 .junk), (l5.getD 3 .junk), v149, v150] H148)))
 (fun R7 =>
 C.aLd 7 true false v1.nod H4 fun v151 H152 =>
 C.callE 14 [v151.nod] H152 fun v153 H154 =>
 C.aUn .not v153.nod fun v155 =>
 Jv (fun v156 H157 =>
 R7 [a2, a3, v1, v3, v156] H157)
 (fun R158 =>
 aG v155.nod false (
 C.aFA 0 1 false v3.nod fun v159 =>
 C.aLd 1 false false v159.nod H154 fun v160 H161 =>
 C.aBin (Try.prog.underlying 3) .gtr v160.nod (I 300) fun v162 =>
 aG v162.nod true (
 C.aFA 0 1 false v3.nod fun v163 =>
 C.aLd 1 false false v163.nod H161 fun v164 H165 =>
 C.aBin (Try.prog.underlying 3) .leq v164.nod (I 20000) fun v166 =>
 R158 v166.nod.nod H165) (
 R158 (B false) H161)) (
 UD = UD ∧
 UD = UD ∧
 UD = UD ∧
 R158 (B true) H154)))
theorem wf10 : (Nat.ble 4 Try.f10.ntmps && wfC an10 Try.f10.ntmps (Try.f10.body.getD .skip)) = true := by kernel_rfl
theorem tie10 (C : Cb) (a0 a1 a2 a3 : V) (H : Hp) (R : List V → Hp → Prop) : wpG Try.prog C an10 (Try.f10.body.getD .skip) (argF [a0, a1, a2, a3]) H (retG Try.prog C Try.f10 R) (fun _ _ _ => False) (retG Try.prog C Try.f10 R) = vc10 C a0 a1 a2 a3 H R := by kernel_rfl
theorem mk10 (a0 a1 a2 a3 : V) {H : Hp} {v : V} {H1 : Hp} (hd : v.Nd) (hn : H.length ≤ H1.length) (hb : H1 = H ∨ ∀ (b : Nat) (blk : Blk), H1[b]? = some blk → H[b]? = some blk ∨ BelB H1.length blk) (h : vc10 (real Try.prog) a0 a1 a2 a3 H (retF v H1)) : Ret Try.prog 10 [a0, a1, a2, a3] H v H1 :=
  ret_mk (an := an10) hm Try.call10 Try.func10 rfl wf10 hd hn hb (Eq.mpr (tie10 (real Try.prog) a0 a1 a2 a3 H (retF v H1)) h)
theorem mkE10 (a0 a1 a2 a3 : V) {H : Hp} {Q : V → Hp → Prop} (h : vc10 (real Try.prog) a0 a1 a2 a3 H (retW Q)) : RetE Try.prog 10 [a0, a1, a2, a3] H Q :=
  retE_mk (an := an10) hm Try.call10 Try.func10 rfl wf10 (Eq.mpr (tie10 (real Try.prog) a0 a1 a2 a3 H (retW Q)) h)
theorem mko10 (a0 a1 a2 a3 : V) {H : Hp} {xs : List V} {H1 : Hp} (hn : H.length ≤ H1.length) (hb : H1 = H ∨ ∀ (b : Nat) (blk : Blk), H1[b]? = some blk → H[b]? = some blk ∨ BelB H1.length blk) (h : vc10 (real Try.prog) a0 a1 a2 a3 H (retO xs H1)) : Ret Try.prog 10 [a0, a1, a2, a3] H (.arr xs .own) H1 :=
  ret_mko (an := an10) (t := 8) hm Try.call10 Try.func10 rfl wf10 rfl hn hb (Eq.mpr (tie10 (real Try.prog) a0 a1 a2 a3 H (retO xs H1)) h)
end Go.Proofs.Ytgodfjbmblghnaa


set_option linter.unusedVariables false
set_option linter.unusedSimpArgs false
set_option linter.unnecessarySimpa false
set_option maxRecDepth 20000
set_option maxHeartbeats 2000000
namespace Go.Proofs.Ytgodfjbmblghnaa
open Go Go.Ab Go.Proofs
attribute [local congr] g_bin g_nilS g_nilP g_un g_ext g_bx g_fa g_ld g_st g_ix g_ixA g_slc g_mk g_bs g_bd g_nc g_cv g_len g_lenT g_app g_appB g_cpy g_mm g_call g_callG g_calm g_calmG g_range g_res g_pick g_cond g_loop g_Jv g_eqS g_eqP g_fd g_ixT g_ta g_lkp g_upd g_mkM g_appS g_inv g_callE g_callEG g_invE g_zr g_wr
theorem rfE_sc (s : Sy) (n t g k : Int) : rfE s n t g k true = scE [s] n t g k := by
  unfold rfE scE
  simp only [List.all_cons, List.all_nil, Bool.and_true, true_and]
theorem inS_steps {s : Sy} {u r : Int} {R : V → Hp → Prop} {H : Hp} (kR : R (B (!inS s u r)) H) : (u < 0 → R (B true) H) ∧ (0 ≤ u → s.se.length ≤ u → R (B true) H) ∧ (0 ≤ u → u < s.se.length → r < 0 → R (B true) H) ∧ (0 ≤ u → u < s.se.length → 0 ≤ r → R (B (decide (((s.se.getD u.toNat []).length : Int) ≤ r))) H) := by
  have e : ∀ b : Bool, (!inS s u r) = b → R (B b) H := fun b h => by rw [← h]; exact kR
  unfold inS inB at e
  refine ⟨fun h => e _ ?_, fun h h' => e _ ?_, fun h h' h'' => e _ ?_, fun h h' h'' => e _ ?_⟩
  · rw [decide_eq_false (show ¬ 0 ≤ u by omega)]; rfl
  · rw [decide_eq_false (show ¬ u ≤ (s.se.length : Int) - 1 by omega), Bool.and_false]; rfl
  · rw [decide_eq_false (show ¬ 0 ≤ r by omega)]; simp
  · rw [decide_eq_true h, decide_eq_true (show u ≤ (s.se.length : Int) - 1 by omega), decide_eq_true h'']
    rw [Bool.eq_iff_iff]
    simp only [Bool.and_self, Bool.true_and, Bool.not_eq_true', decide_eq_true_eq, decide_eq_false_iff_not]
    omega
theorem c10 (s : Sy) (n t g k u r : Int) (H : Hp) (sm : Sm s) : Ret Try.prog 10 [syV s, asV n t g k, I u, I r] H (B true) H := by
  have hse := sm.se
  refine mk10 _ _ _ _ rfl (Nat.le_refl _) (.inl rfl) ?_
  simp only [vc10, real]
  repeat (first | (with_reducible first | refine Ju.go ?_ | (refine Hd.go ?_; intro K Q hK hQ; simp only [nod_agg, List.map_cons, nodL_imm, nodL_arr, nd_no, List.map_nil, e_bxI, okE_agg, lv_cons, List.length_nil, Nat.zero_add, Nat.reduceAdd, all_c, ck_I, ck_arr, all_n, Bool.and_self, and_true, true_and, nod_cptr, e_ldcA]; subst hK hQ) | refine Jr.go ?_) | refine sd ?_)
  refine callE_of (c14 s H sm) fun v H1 ⟨hH, b, hv⟩ => ?_
  replace hH := hH.symm
  subst hv hH
  cases b
  · repeat (first | (with_reducible first | refine Ju.go ?_ | (refine Hd.go ?_; intro K Q hK hQ; simp only [nod_imm, e_not, Bool.not_false, nod_cptr, Try.underlying3, nod_nod, e_fac, Nat.zero_add, lv_cons, List.length_nil, Nat.reduceAdd, Nat.reduceLeDiff, List.getD_cons_zero, e_ldc, e_leq, true_and, e_gtr, e_gT, j_and', e_gF, cond_true, j_one, List.getD_cons_succ, e_cond, if_true]; subst hK hQ) | refine Jr.go ?_) | refine sd ?_)
    refine call_of (c15 _) ?_
    repeat (first | (with_reducible first | refine Ju.go ?_ | (refine Hd.go ?_; intro K Q hK hQ; simp only [Try.underlying3, Try.underlying4, Try.underlying5, Try.underlying9, Try.underlying29, Try.underlying57, Try.underlying55, j_one, j_side, j_tl, j_fl, nod_nod, nod_imm, nod_ints, nd_no, nd_own, nd_full, nd_fO, oF_ap, oF_succ, nod_sl, nod_ptr, nod_cptr, nod_fn, nod_junk, nodL_imm, nod_agg, nod_tup, nod2_imm, nod2_agg, cl_imm, cl_ints, cl_agg, e_add, e_sub, e_mul, e_quo, e_rem, e_eql, e_neq, e_lss, e_leq, e_gtr, e_geq, e_beq, e_bne, e_neg, e_not, e_pick, e_cond, e_gT, e_gF, e_len, e_lenA, e_lenS, e_ix, e_ixS, e_ldc, e_ldci, e_fa, rep_cl, rep_I, e_bx, okE_I, okE_B, okE_E8, okE_ints, stV_imm, stV_ints, j_and', j_or', List.getD_cons_zero, List.getD_cons_succ, List.map_cons, List.map_nil, decide_eq_true_eq, Int.toNat_natCast, Nat.mul_one, Nat.zero_add, true_and, and_true, List.length_map, Bool.not_eq_true', decide_eq_false_iff_not, nod_lists, e_lenL, e_ixL, okE_lists, bs1, bs1L, bs2L, e_app, e_appL, e_app0, e_app0L, e_slcLo, e_slcHi, e_slcLH, e_slcHH, e_slcLHH, e_callG, e_callY, e_calmG, e_slS0, e_slSLo, e_slSHi, e_slSLH, e_slSHH, e_slSLHH, e_max2, e_min2, e_max3, e_x20, e_x21, e_x30, e_x31, e_x32, nod2_ints, nod2_lists, rep_fl, bs0, e_nilE, if_true, if_false, cond_true, cond_false, decide_true, decide_false, eq_self, Bool.false_eq_true, false_implies, true_implies, ap_own, ap_full, e_slcLoL, e_slcHiL, e_slcLHL, hp_assoc, hp_cons, hp_nil, hp_len, hp_len_cons, hp_len_nil, lv_cons, lv_nil, vs_0, vs_s, spl_s, spl_0, spl_n, dr_s, dr_0, tk_s, tk_0, e_bxI, e_fac, e_facA, e_ldcA, e_ldcL, e_ldcF, okE_agg, ck_I, ck_B, ck_ints, ck_lists, ck_arr, ck_ptr, ck_cptr, ck_fn, all_c, all_n, stV_agg, stV_lists, stV_arr, stV_ptr, stV_cptr, stV_fn, nodL_ints, nodL_lists, nodL_ptr, nodL_cptr, nodL_fn, nodL_arr0, cl_arr, cl_ptr, cl_cptr, cl_fn, cl_lists, okE_arr, okE_fn, okE_ptr, okE_cptr, e_bd0, e_bd1, e_wr, Nat.reduceAdd, Nat.reduceLeDiff, Nat.reduceEqDiff, Nat.add_zero, Bool.and_self, Bool.true_and, Bool.and_true, e_lc0, e_lA0, e_lM0, e_sc0, e_rc0, e_rA0, e_lI0, e_sI0, e_cI0, e_lc1, e_lA1, e_lM1, e_sc1, e_rc1, e_rA1, e_lI1, e_sI1, e_cI1, e_lc2, e_lA2, e_lM2, e_sc2, e_rc2, e_rA2, e_lI2, e_sI2, e_cI2, e_lc3, e_lA3, e_lM3, e_sc3, e_rc3, e_rA3, e_lI3, e_sI3, e_cI3, e_lc4, e_lA4, e_lM4, e_sc4, e_rc4, e_rA4, e_lI4, e_sI4, e_cI4, e_lc5, e_lA5, e_lM5, e_sc5, e_rc5, e_rA5, e_lI5, e_sI5, e_cI5, own0_arr, own0_ints, own0_lists, own0_imm, own0_ptr, own0_cptr, own0_fn, own0_agg, e_appB, e_appB0, ck_sl, own0_sl, stV_sl, nodL_sl, cl_sl, okE_sl, e_mkM, e_mkI, e_mkIm, e_callB, nod_bfn, nod_ifc, nod_map, nodL_ifc, nodL_bfn, nodL_map, cl_ifc, cl_bfn, ck_ifc, ck_bfn, ck_map, stV_ifc, okE_ifc, okE_bfn, nod_arr, nodL_arr, e_addU, e_mulU, e_shrK, e_shlK, e_andK, e_cv64, e_cv32, e_callEG, e_callEY, e_callEB, e_zr, e_nilSl, e_ncP, e_ncC, e_npnP, e_npeP, e_npnC, e_npeC, e_npnN, e_npeN, e_ixAP, e_ldcP, e_ldcS, e_ldcV, e_ldcT, okE_nilP, ck_nilP, okE_nilI, ck_nilI, okE_str, ck_str, e_tlen, e_tix, e_teq, e_tne, e_tadd, e_tb, e_u8lss, e_u8gtr, noV_full, nod_arr, List.length_map, reduceIte, Int.reduceEq, Int.reduceNeg, ne_eq, not_true_eq_false, not_false_eq_true, Bool.not_true, Bool.not_false, Bool.true_or, Bool.or_true, Bool.false_or, Bool.or_false, Bool.and_true, Bool.and_false, Bool.false_and, Bool.not_not, Bool.or_self, List.length_nil, Int.ofNat_zero, Int.cast_ofNat_Int, Int.natCast_zero, beq_self_eq_true, Bool.true_eq_false]; subst hK hQ) | refine Jr.go ?_) | refine sd ?_)
    exact end1 (fzI _)
  · by_cases h3 : (decide (300 < n) && decide (n ≤ 20000)) = true
    · rw [Bool.and_eq_true, decide_eq_true_eq, decide_eq_true_eq] at h3
      obtain ⟨h3, h4⟩ := h3
      repeat (first | (with_reducible first | refine Ju.go ?_ | (refine Hd.go ?_; intro K Q hK hQ; simp only [nod_imm, e_not, Bool.not_true, nod_cptr, Try.underlying3, nod_nod, e_fac, Nat.zero_add, lv_cons, List.length_nil, Nat.reduceAdd, Nat.reduceLeDiff, List.getD_cons_zero, e_ldc, e_leq, h4, decide_true, true_and, e_gtr, h3, e_gT, cond_true, e_gF, cond_false, j_one, List.getD_cons_succ, e_cond, if_true]; subst hK hQ) | refine Jr.go ?_) | refine sd ?_)
      refine call_of (c15 _) ?_
      repeat (first | (with_reducible first | refine Ju.go ?_ | (refine Hd.go ?_; intro K Q hK hQ; simp only [Try.underlying3, Try.underlying4, Try.underlying5, Try.underlying9, Try.underlying29, Try.underlying57, Try.underlying55, j_one, j_side, j_tl, j_fl, nod_nod, nod_imm, nod_ints, nd_no, nd_own, nd_full, nd_fO, oF_ap, oF_succ, nod_sl, nod_ptr, nod_cptr, nod_fn, nod_junk, nodL_imm, nod_agg, nod_tup, nod2_imm, nod2_agg, cl_imm, cl_ints, cl_agg, e_add, e_sub, e_mul, e_quo, e_rem, e_eql, e_neq, e_lss, e_leq, e_gtr, e_geq, e_beq, e_bne, e_neg, e_not, e_pick, e_cond, e_gT, e_gF, e_len, e_lenA, e_lenS, e_ix, e_ixS, e_ldc, e_ldci, e_fa, rep_cl, rep_I, e_bx, okE_I, okE_B, okE_E8, okE_ints, stV_imm, stV_ints, j_and', j_or', List.getD_cons_zero, List.getD_cons_succ, List.map_cons, List.map_nil, decide_eq_true_eq, Int.toNat_natCast, Nat.mul_one, Nat.zero_add, true_and, and_true, List.length_map, Bool.not_eq_true', decide_eq_false_iff_not, nod_lists, e_lenL, e_ixL, okE_lists, bs1, bs1L, bs2L, e_app, e_appL, e_app0, e_app0L, e_slcLo, e_slcHi, e_slcLH, e_slcHH, e_slcLHH, e_callG, e_callY, e_calmG, e_slS0, e_slSLo, e_slSHi, e_slSLH, e_slSHH, e_slSLHH, e_max2, e_min2, e_max3, e_x20, e_x21, e_x30, e_x31, e_x32, nod2_ints, nod2_lists, rep_fl, bs0, e_nilE, if_true, if_false, cond_true, cond_false, decide_true, decide_false, eq_self, Bool.false_eq_true, false_implies, true_implies, ap_own, ap_full, e_slcLoL, e_slcHiL, e_slcLHL, hp_assoc, hp_cons, hp_nil, hp_len, hp_len_cons, hp_len_nil, lv_cons, lv_nil, vs_0, vs_s, spl_s, spl_0, spl_n, dr_s, dr_0, tk_s, tk_0, e_bxI, e_fac, e_facA, e_ldcA, e_ldcL, e_ldcF, okE_agg, ck_I, ck_B, ck_ints, ck_lists, ck_arr, ck_ptr, ck_cptr, ck_fn, all_c, all_n, stV_agg, stV_lists, stV_arr, stV_ptr, stV_cptr, stV_fn, nodL_ints, nodL_lists, nodL_ptr, nodL_cptr, nodL_fn, nodL_arr0, cl_arr, cl_ptr, cl_cptr, cl_fn, cl_lists, okE_arr, okE_fn, okE_ptr, okE_cptr, e_bd0, e_bd1, e_wr, Nat.reduceAdd, Nat.reduceLeDiff, Nat.reduceEqDiff, Nat.add_zero, Bool.and_self, Bool.true_and, Bool.and_true, e_lc0, e_lA0, e_lM0, e_sc0, e_rc0, e_rA0, e_lI0, e_sI0, e_cI0, e_lc1, e_lA1, e_lM1, e_sc1, e_rc1, e_rA1, e_lI1, e_sI1, e_cI1, e_lc2, e_lA2, e_lM2, e_sc2, e_rc2, e_rA2, e_lI2, e_sI2, e_cI2, e_lc3, e_lA3, e_lM3, e_sc3, e_rc3, e_rA3, e_lI3, e_sI3, e_cI3, e_lc4, e_lA4, e_lM4, e_sc4, e_rc4, e_rA4, e_lI4, e_sI4, e_cI4, e_lc5, e_lA5, e_lM5, e_sc5, e_rc5, e_rA5, e_lI5, e_sI5, e_cI5, own0_arr, own0_ints, own0_lists, own0_imm, own0_ptr, own0_cptr, own0_fn, own0_agg, e_appB, e_appB0, ck_sl, own0_sl, stV_sl, nodL_sl, cl_sl, okE_sl, e_mkM, e_mkI, e_mkIm, e_callB, nod_bfn, nod_ifc, nod_map, nodL_ifc, nodL_bfn, nodL_map, cl_ifc, cl_bfn, ck_ifc, ck_bfn, ck_map, stV_ifc, okE_ifc, okE_bfn, nod_arr, nodL_arr, e_addU, e_mulU, e_shrK, e_shlK, e_andK, e_cv64, e_cv32, e_callEG, e_callEY, e_callEB, e_zr, e_nilSl, e_ncP, e_ncC, e_npnP, e_npeP, e_npnC, e_npeC, e_npnN, e_npeN, e_ixAP, e_ldcP, e_ldcS, e_ldcV, e_ldcT, okE_nilP, ck_nilP, okE_nilI, ck_nilI, okE_str, ck_str, e_tlen, e_tix, e_teq, e_tne, e_tadd, e_tb, e_u8lss, e_u8gtr, noV_full, nod_arr, List.length_map, reduceIte, Int.reduceEq, Int.reduceNeg, ne_eq, not_true_eq_false, not_false_eq_true, Bool.not_true, Bool.not_false, Bool.true_or, Bool.or_true, Bool.false_or, Bool.or_false, Bool.and_true, Bool.and_false, Bool.false_and, Bool.not_not, Bool.or_self, List.length_nil, Int.ofNat_zero, Int.cast_ofNat_Int, Int.natCast_zero, beq_self_eq_true, Bool.true_eq_false]; subst hK hQ) | refine Jr.go ?_) | refine sd ?_)
      exact end1 (fzI _)
    · repeat (first | (with_reducible first | refine Ju.go ?_ | (refine Hd.go ?_; intro K Q hK hQ; simp only [nod_imm, e_not, Bool.not_true, nod_cptr, Try.underlying3, nod_nod, e_fac, Nat.zero_add, lv_cons, List.length_nil, Nat.reduceAdd, Nat.reduceLeDiff, List.getD_cons_zero, e_ldc, e_leq, true_and, e_gtr, e_gT, j_and', h3, e_gF, cond_false, j_one, List.getD_cons_succ, e_cond, Bool.false_eq_true, if_false, e_ldcA, nod_agg, List.map_cons, nodL_imm, nodL_arr, nd_no, List.map_nil]; subst hK hQ) | refine Jr.go ?_) | refine sd ?_)
      refine call_of (c32 s n t g k u r _ sm) ?_
      have cs := c22 s n t g k true
      rw [rfE_sc] at cs
      have c34' := c34 s n t g k
      unfold lgN lgM lgE at c34'
      by_cases w2 : scE [s] n t g k = 2
      · have e : usE s n t g k u r = 2 := if_pos (.inl w2)
        have l : usR s n t g k u r = [] := if_neg (by rw [e]; decide)
        rw [w2] at cs c34'
        rw [e, l]
        repeat (first | (with_reducible first | refine Ju.go ?_ | (refine Hd.go ?_; intro K Q hK hQ; simp only [nod_tup, List.map_cons, nod2_ints, nd_no, nod2_imm, List.map_nil, e_x20, e_x21, List.getD_cons_zero, List.getD_cons_succ, nod_cptr, e_ldcA, lv_cons, List.length_nil, Nat.zero_add, Nat.reduceAdd, true_and, nod_agg, nodL_imm, nodL_arr]; subst hK hQ) | refine Jr.go ?_) | refine sd ?_)
        refine call_of (c34' _ sm) ?_
        repeat (first | (with_reducible first | refine Ju.go ?_ | (refine Hd.go ?_; intro K Q hK hQ; simp only [ne_eq, Int.reduceEq, not_false_eq_true, if_true, nod_tup, List.map_cons, nod2_imm, List.map_nil, e_x30, e_x31, e_x32, List.getD_cons_succ, List.getD_cons_zero, nod_cptr, e_ldcA, lv_cons, List.length_nil, Nat.zero_add, Nat.reduceAdd, true_and, nod_agg, nodL_imm, nodL_arr, nd_no]; subst hK hQ) | refine Jr.go ?_) | refine sd ?_)
        refine call_of (cs _ sm) ?_
        repeat (first | (with_reducible first | refine Ju.go ?_ | (refine Hd.go ?_; intro K Q hK hQ; simp only [List.getD_cons_zero, List.getD_cons_succ, nod_imm, Try.underlying29, e_neq, decide_true, Bool.not_true, Try.underlying3, nod_cptr, nod_nod, e_fac, Nat.reduceAdd, lv_cons, List.length_nil, Nat.zero_add, Nat.reduceLeDiff, e_ldcV, nod_arr, nd_no, true_and, e_lss, e_gF, e_lenA, List.length_map, e_geq, e_gT, cond_false, j_one, e_cond, Bool.false_eq_true, if_false, Int.reduceEq, decide_false, Bool.not_false, if_true, nod_ints, e_len, Int.cast_ofNat_Int, e_eql, cond_true]; subst hK hQ) | refine Jr.go ?_) | refine sd ?_)
        refine call_of (c15 _) ?_
        repeat (first | (with_reducible first | refine Ju.go ?_ | (refine Hd.go ?_; intro K Q hK hQ; simp only [nod_imm]; subst hK hQ) | refine Jr.go ?_) | refine sd ?_)
        exact end1 (fzI _)
      · have hE : usE s n t g k u r = if inS s u r = false then 2 else scE [s] n t g k := by
          unfold usE
          by_cases h : inS s u r = false
          · rw [if_pos (.inr h), if_pos h]
          · rw [if_neg (fun h' => by rcases h' with h' | h'; exact w2 h'; exact h h'), if_neg h]
        have hlen : ∀ h0 : 0 ≤ u, u < s.se.length → ((s.se.getD u.toNat []).length : Int) ≤ 9223372036854775807 := fun h0 h1 => by
          have := (sm.nu _ (getD_memA s.se [] (show u.toNat < s.se.length by omega))).1
          omega
        by_cases w0 : scE [s] n t g k = 0
        · obtain ⟨ho, n0, n2⟩ := scE_0 w0
          rw [w0, if_neg (by decide), if_neg (by decide), if_neg (by decide)] at c34'
          rw [w0] at cs hE
          have hA := lgA_ok s t g k (n.toNat + 1)
          have c36' := c36 s n t g k
          generalize lgA s t g k (n.toNat + 1) = A at *
          generalize hme : (if A.2 = 0 then (5 : Int) else 0) = me at *
          have hfl := fil_len' (isU s t u r) n
          have hR' : usR s n t g k u r = if inS s u r = true then fil (isU s t u r) n else [] := by
            unfold usR
            rw [hE]
            cases inS s u r <;> rfl
          generalize usE s n t g k u r = ue at *
          generalize usR s n t g k u r = ur at *
          repeat (first | (with_reducible first | refine Ju.go ?_ | (refine Hd.go ?_; intro K Q hK hQ; simp only [nod_tup, List.map_cons, nod2_ints, nd_no, nod2_imm, List.map_nil, e_x20, e_x21, List.getD_cons_zero, List.getD_cons_succ, nod_cptr, e_ldcA, lv_cons, List.length_nil, Nat.zero_add, Nat.reduceAdd, true_and, nod_agg, nodL_imm, nodL_arr]; subst hK hQ) | refine Jr.go ?_) | refine sd ?_)
          refine call_of (c34' _ sm) ?_
          repeat (first | (with_reducible first | refine Ju.go ?_ | (refine Hd.go ?_; intro K Q hK hQ; simp only [nod_tup, List.map_cons, nod2_imm, List.map_nil, e_x30, e_x31, e_x32, List.getD_cons_succ, List.getD_cons_zero, nod_cptr, e_ldcA, lv_cons, List.length_nil, Nat.zero_add, Nat.reduceAdd, true_and, nod_agg, nodL_imm, nodL_arr, nd_no]; subst hK hQ) | refine Jr.go ?_) | refine sd ?_)
          refine call_of (cs _ sm) ?_
          repeat (first | (with_reducible first | refine Ju.go ?_ | (refine Hd.go ?_; intro K Q hK hQ; simp only [List.getD_cons_zero, List.getD_cons_succ, nod_imm, Try.underlying29, e_neq, Int.reduceEq, decide_false, Bool.not_false, Try.underlying3, nod_cptr, nod_nod, e_fac, Nat.reduceAdd, lv_cons, List.length_nil, Nat.zero_add, Nat.reduceLeDiff, e_ldcV, nod_arr, nd_no, true_and, e_lss, e_gF, e_lenA, List.length_map, e_geq, e_gT, cond_true]; subst hK hQ) | refine Jr.go ?_) | refine sd ?_)
          generalize hRR : Rv _ = R
          have kR : R (B (!inS s u r)) H := by
            rw [← hRR]
            refine rv_go ?_
            clear hRR
            clear R
            cases hi : inS s u r
            · rw [hi, if_pos rfl] at hE
              rw [hi, if_neg (by decide)] at hR'
              subst hE hR'
              repeat (first | (with_reducible first | refine Ju.go ?_ | (refine Hd.go ?_; intro K Q hK hQ; simp only [List.getD_cons_zero, List.getD_cons_succ, nod_imm, Bool.not_false, e_cond, if_true, Try.underlying29, e_neq, Int.reduceEq, decide_false, decide_true, Bool.not_true, nod_ints, nd_no, Try.underlying3, e_len, List.length_nil, Int.cast_ofNat_Int, e_gF, cond_false, j_one, Bool.false_eq_true, if_false, nod_cptr, e_ldcA, lv_cons, Nat.zero_add, Nat.reduceAdd, true_and, nod_agg, List.map_cons, nodL_imm, nodL_arr, List.map_nil]; subst hK hQ) | refine Jr.go ?_) | refine sd ?_)
              refine call_of (c36' _ sm ho n2) ?_
              rcases hA with e | ⟨e1, e2⟩
              · rw [e]
                rw [e, if_pos rfl] at hme
                subst hme
                have eP : lgP (-1, 0) = 0 := rfl
                have nm1 : (-1 : Int) < 0 := by decide
                rw [eP]
                repeat (first | (with_reducible first | refine Ju.go ?_ | (refine Hd.go ?_; intro K Q hK hQ; simp only [Int.reduceNeg, nod_tup, List.map_cons, nod2_imm, List.map_nil, e_x20, e_x21, nod_imm, Try.underlying3, e_lss, nm1, decide_true, e_cond, if_true, List.getD_cons_succ, List.getD_cons_zero, Try.underlying29, e_eql, e_gT, cond_true, j_one]; subst hK hQ) | refine Jr.go ?_) | refine sd ?_)
                refine call_of (c15 _) ?_
                repeat (first | (with_reducible first | refine Ju.go ?_ | (refine Hd.go ?_; intro K Q hK hQ; simp only [nod_imm]; subst hK hQ) | refine Jr.go ?_) | refine sd ?_)
                exact end1 (fzI _)
              · rw [if_neg (by omega)] at hme
                subst hme
                have eP : lgP A = A.1 := if_neg (by omega)
                rw [eP]
                have e1' : ¬ A.1 < 0 := by omega
                repeat (first | (with_reducible first | refine Ju.go ?_ | (refine Hd.go ?_; intro K Q hK hQ; simp only [nod_tup, List.map_cons, nod2_imm, List.map_nil, e_x20, e_x21, nod_imm, Try.underlying3, e_lss, e1', decide_false, e_cond, Bool.false_eq_true, if_false, List.getD_cons_succ, List.getD_cons_zero, Try.underlying29, e_eql, decide_true, e_gT, cond_true, j_one]; subst hK hQ) | refine Jr.go ?_) | refine sd ?_)
                refine call_of (c15 _) ?_
                repeat (first | (with_reducible first | refine Ju.go ?_ | (refine Hd.go ?_; intro K Q hK hQ; simp only [nod_imm]; subst hK hQ) | refine Jr.go ?_) | refine sd ?_)
                exact end1 (fzI _)
            · rw [hi, if_neg (by decide)] at hE
              rw [hi, if_pos rfl] at hR'
              subst hE hR'
              repeat (first | (with_reducible first | refine Ju.go ?_ | (refine Hd.go ?_; intro K Q hK hQ; simp only [List.getD_cons_zero, List.getD_cons_succ, nod_imm, Bool.not_true, e_cond, Bool.false_eq_true, if_false, Try.underlying29, e_neq, decide_true, nod_cptr, nod_ints, nd_no, e_ldcA, lv_cons, List.length_nil, Nat.zero_add, Nat.reduceAdd, nod_agg, List.map_cons, nodL_imm, List.map_nil, true_and, nodL_arr, e_gF, cond_false]; subst hK hQ) | refine Jr.go ?_) | refine sd ?_)
              refine call_of (c35 s n t g k u r _ sm ho n2) ?_
              repeat (first | (with_reducible first | refine Ju.go ?_ | (refine Hd.go ?_; intro K Q hK hQ; simp only [nod_ints, nd_no]; subst hK hQ) | refine Jr.go ?_) | refine sd ?_)
              refine call_of (c29 _ _ _ (by omega)) ?_
              rw [decide_eq_true rfl]
              repeat (first | (with_reducible first | refine Ju.go ?_ | (refine Hd.go ?_; intro K Q hK hQ; simp only [nod_imm, e_not, Bool.not_true, List.getD_cons_succ, List.getD_cons_zero, e_cond, Bool.false_eq_true, if_false, Try.underlying29, e_neq, decide_true, nod_cptr, e_ldcA, lv_cons, List.length_nil, Nat.zero_add, Nat.reduceAdd, true_and, nod_agg, List.map_cons, nodL_imm, nodL_arr, nd_no, List.map_nil]; subst hK hQ) | refine Jr.go ?_) | refine sd ?_)
              refine call_of (c36' _ sm ho n2) ?_
              rcases hA with e | ⟨e1, e2⟩
              · rw [e]
                rw [e, if_pos rfl] at hme
                subst hme
                have eP : lgP (-1, 0) = 0 := rfl
                have nm1 : (-1 : Int) < 0 := by decide
                rw [eP]
                repeat (first | (with_reducible first | refine Ju.go ?_ | (refine Hd.go ?_; intro K Q hK hQ; simp only [Int.reduceNeg, nod_tup, List.map_cons, nod2_imm, List.map_nil, e_x20, e_x21, nod_imm, Try.underlying3, e_lss, nm1, decide_true, e_cond, if_true, List.getD_cons_succ, List.getD_cons_zero, Try.underlying29, e_eql, e_gT, cond_true, j_one]; subst hK hQ) | refine Jr.go ?_) | refine sd ?_)
                refine call_of (c15 _) ?_
                repeat (first | (with_reducible first | refine Ju.go ?_ | (refine Hd.go ?_; intro K Q hK hQ; simp only [nod_imm]; subst hK hQ) | refine Jr.go ?_) | refine sd ?_)
                exact end1 (fzI _)
              · rw [if_neg (by omega)] at hme
                subst hme
                have eP : lgP A = A.1 := if_neg (by omega)
                rw [eP]
                have e1' : ¬ A.1 < 0 := by omega
                repeat (first | (with_reducible first | refine Ju.go ?_ | (refine Hd.go ?_; intro K Q hK hQ; simp only [nod_tup, List.map_cons, nod2_imm, List.map_nil, e_x20, e_x21, nod_imm, Try.underlying3, e_lss, e1', decide_false, e_cond, Bool.false_eq_true, if_false, List.getD_cons_succ, List.getD_cons_zero, Try.underlying29, e_eql, decide_true, e_gT, cond_true, j_one]; subst hK hQ) | refine Jr.go ?_) | refine sd ?_)
                refine call_of (c15 _) ?_
                repeat (first | (with_reducible first | refine Ju.go ?_ | (refine Hd.go ?_; intro K Q hK hQ; simp only [nod_imm]; subst hK hQ) | refine Jr.go ?_) | refine sd ?_)
                exact end1 (fzI _)
          obtain ⟨q1, q2, q3, q4⟩ := inS_steps kR
          by_cases u0 : u < 0
          · repeat (first | (with_reducible first | refine Ju.go ?_ | (refine Hd.go ?_; intro K Q hK hQ; simp only [u0, decide_true, cond_true]; subst hK hQ) | refine Jr.go ?_) | refine sd ?_)
            exact q1 u0
          · by_cases u1 : (s.se.length : Int) ≤ u
            · repeat (first | (with_reducible first | refine Ju.go ?_ | (refine Hd.go ?_; intro K Q hK hQ; simp only [u0, decide_false, cond_false, u1, decide_true, cond_true]; subst hK hQ) | refine Jr.go ?_) | refine sd ?_)
              exact q2 (by omega) u1
            · have u0' : 0 ≤ u := by omega
              have u1' : u < s.se.length := by omega
              by_cases r0 : r < 0
              · repeat (first | (with_reducible first | refine Ju.go ?_ | (refine Hd.go ?_; intro K Q hK hQ; simp only [u0, decide_false, cond_false, u1, r0, decide_true, cond_true]; subst hK hQ) | refine Jr.go ?_) | refine sd ?_)
                exact q3 u0' u1' r0
              · repeat (first | (with_reducible first | refine Ju.go ?_ | (refine Hd.go ?_; intro K Q hK hQ; simp only [u0, decide_false, cond_false, u1, r0, ix_se, u0', u1', true_and, nod_cptr, e_ldcV, nod_arr, nd_no, e_lenA, List.length_map, nod_imm, e_geq]; subst hK hQ) | refine Jr.go ?_) | refine sd ?_)
                exact q4 u0' u1' (by omega)
        · rw [if_pos w0, if_pos w0, if_pos w0] at c34'
          have w4 : scE [s] n t g k = 4 := by
            unfold scE at w2 w0 ⊢
            split
            · rename_i h
              rw [if_pos h] at w0
              split
              · rfl
              · rename_i h'
                rw [if_neg h'] at w0
                exact absurd rfl w0
            · rename_i h
              rw [if_neg h] at w2
              exact absurd rfl w2
          rw [w4] at cs hE c34'
          have hR' : usR s n t g k u r = [] := by
            unfold usR
            rw [hE]
            cases inS s u r <;> rfl
          rw [hR']
          generalize usE s n t g k u r = ue at *
          repeat (first | (with_reducible first | refine Ju.go ?_ | (refine Hd.go ?_; intro K Q hK hQ; simp only [nod_tup, List.map_cons, nod2_ints, nd_no, nod2_imm, List.map_nil, e_x20, e_x21, List.getD_cons_zero, List.getD_cons_succ, nod_cptr, e_ldcA, lv_cons, List.length_nil, Nat.zero_add, Nat.reduceAdd, true_and, nod_agg, nodL_imm, nodL_arr]; subst hK hQ) | refine Jr.go ?_) | refine sd ?_)
          refine call_of (c34' _ sm) ?_
          repeat (first | (with_reducible first | refine Ju.go ?_ | (refine Hd.go ?_; intro K Q hK hQ; simp only [nod_tup, List.map_cons, nod2_imm, List.map_nil, e_x30, e_x31, e_x32, List.getD_cons_succ, List.getD_cons_zero, nod_cptr, e_ldcA, lv_cons, List.length_nil, Nat.zero_add, Nat.reduceAdd, true_and, nod_agg, nodL_imm, nodL_arr, nd_no]; subst hK hQ) | refine Jr.go ?_) | refine sd ?_)
          refine call_of (cs _ sm) ?_
          repeat (first | (with_reducible first | refine Ju.go ?_ | (refine Hd.go ?_; intro K Q hK hQ; simp only [List.getD_cons_zero, List.getD_cons_succ, nod_imm, Try.underlying29, e_neq, Int.reduceEq, decide_false, Bool.not_false, Try.underlying3, nod_cptr, nod_nod, e_fac, Nat.reduceAdd, lv_cons, List.length_nil, Nat.zero_add, Nat.reduceLeDiff, e_ldcV, nod_arr, nd_no, true_and, e_lss, e_gF, e_lenA, List.length_map, e_geq, e_gT, cond_true]; subst hK hQ) | refine Jr.go ?_) | refine sd ?_)
          generalize hRR : Rv _ = R
          have kR : R (B (!inS s u r)) H := by
            rw [← hRR]
            refine rv_go ?_
            clear hRR
            clear R
            cases hi : inS s u r
            · rw [hi, if_pos rfl] at hE
              subst hE
              repeat (first | (with_reducible first | refine Ju.go ?_ | (refine Hd.go ?_; intro K Q hK hQ; simp only [List.getD_cons_zero, List.getD_cons_succ, nod_imm, Bool.not_false, e_cond, if_true, Try.underlying29, e_neq, Int.reduceEq, decide_false, decide_true, Bool.not_true, nod_ints, nd_no, Try.underlying3, e_len, List.length_nil, Int.cast_ofNat_Int, e_gF, cond_false, j_one, Bool.false_eq_true, if_false, e_eql, e_gT, cond_true]; subst hK hQ) | refine Jr.go ?_) | refine sd ?_)
              refine call_of (c15 _) ?_
              repeat (first | (with_reducible first | refine Ju.go ?_ | (refine Hd.go ?_; intro K Q hK hQ; simp only [nod_imm]; subst hK hQ) | refine Jr.go ?_) | refine sd ?_)
              exact end1 (fzI _)
            · rw [hi, if_neg (by decide)] at hE
              subst hE
              repeat (first | (with_reducible first | refine Ju.go ?_ | (refine Hd.go ?_; intro K Q hK hQ; simp only [List.getD_cons_zero, List.getD_cons_succ, nod_imm, Bool.not_true, e_cond, Bool.false_eq_true, if_false, Try.underlying29, e_neq, Int.reduceEq, decide_false, Bool.not_false, if_true, decide_true, nod_ints, nd_no, Try.underlying3, e_len, List.length_nil, Int.cast_ofNat_Int, e_gF, cond_false, j_one, e_eql, e_gT, cond_true]; subst hK hQ) | refine Jr.go ?_) | refine sd ?_)
              refine call_of (c15 _) ?_
              repeat (first | (with_reducible first | refine Ju.go ?_ | (refine Hd.go ?_; intro K Q hK hQ; simp only [nod_imm]; subst hK hQ) | refine Jr.go ?_) | refine sd ?_)
              exact end1 (fzI _)
          obtain ⟨q1, q2, q3, q4⟩ := inS_steps kR
          by_cases u0 : u < 0
          · repeat (first | (with_reducible first | refine Ju.go ?_ | (refine Hd.go ?_; intro K Q hK hQ; simp only [u0, decide_true, cond_true]; subst hK hQ) | refine Jr.go ?_) | refine sd ?_)
            exact q1 u0
          · by_cases u1 : (s.se.length : Int) ≤ u
            · repeat (first | (with_reducible first | refine Ju.go ?_ | (refine Hd.go ?_; intro K Q hK hQ; simp only [u0, decide_false, cond_false, u1, decide_true, cond_true]; subst hK hQ) | refine Jr.go ?_) | refine sd ?_)
              exact q2 (by omega) u1
            · have u0' : 0 ≤ u := by omega
              have u1' : u < s.se.length := by omega
              by_cases r0 : r < 0
              · repeat (first | (with_reducible first | refine Ju.go ?_ | (refine Hd.go ?_; intro K Q hK hQ; simp only [u0, decide_false, cond_false, u1, r0, decide_true, cond_true]; subst hK hQ) | refine Jr.go ?_) | refine sd ?_)
                exact q3 u0' u1' r0
              · repeat (first | (with_reducible first | refine Ju.go ?_ | (refine Hd.go ?_; intro K Q hK hQ; simp only [u0, decide_false, cond_false, u1, r0, ix_se, u0', u1', true_and, nod_cptr, e_ldcV, nod_arr, nd_no, e_lenA, List.length_map, nod_imm, e_geq]; subst hK hQ) | refine Jr.go ?_) | refine sd ?_)
                exact q4 u0' u1' (by omega)
end Go.Proofs.Ytgodfjbmblghnaa


set_option linter.unusedVariables false
set_option linter.unusedSimpArgs false
set_option linter.unnecessarySimpa false
set_option maxRecDepth 20000
set_option maxHeartbeats 2000000
namespace Go.Proofs.Ytgodfjbmblghnaa
open Go Go.Ab Go.Proofs
attribute [local congr] g_bin g_nilS g_nilP g_un g_ext g_bx g_fa g_ld g_st g_ix g_ixA g_slc g_mk g_bs g_bd g_nc g_cv g_len g_lenT g_app g_appB g_cpy g_mm g_call g_callG g_calm g_calmG g_range g_res g_pick g_cond g_loop g_Jv g_eqS g_eqP g_fd g_ixT g_ta g_lkp g_upd g_mkM g_appS g_inv g_callE g_callEG g_invE g_zr g_wr
open Go.ChangeShapes Go.WideShapes Go.ChangeAt Go.RowKit
theorem own : ownKnob Try.prog.godebug = none := by kernel_rfl
theorem laidOut : laidOutB Try.prog = true := by kernel_rfl
set_option maxRecDepth 100000 in
theorem lifted (os : Os) (started : os.Started) (H : Type) (enc : TypeId × Value → H) :
    ReturnsInHanded {} Try.checked os 10 .any (Rows.numeralUsesSpec.pre6 enc Try.prog Try.f10 Rows.numeralUsesRow.domain false) (Rows.numeralUsesSpec.post enc Try.prog Try.f10 false true false false) := by
  refine returnsInHanded_of_change (C := Try.checked) own started (by kernel_rfl) Try.func10
    (ChangeSpec.witness6 (enc := enc) (C := Try.checked) false ⟨#[], #[.agg #[.int .i64 0, .int .i64 0, .int .i64 0, .int .i64 0, .slice none 0 0, .slice none 0 0, .slice none 0 0], .agg #[.int .i64 0, .int .i64 0, .int .i64 0, .int .i64 0], .int .i64 0, .int .i64 0], []⟩ 8 (by kernel_rfl) (by kernel_rfl) (by kernel_rfl) (by kernel_rfl)) ?_
  intro W base args ds gs before hval0 hW hcnd _
  have hval : ∀ (j : Nat) t v, Try.f10.params[j]? = some t → args[j]? = some v → Value.okWide Try.prog W .any base t v := hval0
  have hW' := hW
  obtain ⟨p, q, hA0, hV, rfl, hfz, hnd⟩ := hW
  have hA : DataW.TrodAll enc Try.prog W 0 (fun _ => true) true Try.f10.params.toList args.toList ds p := hA0
  rw [Try.params10] at hA hval
  obtain ⟨v0, vs0, d0, ds0, p0, q0, hargs, rfl, rfl, h0, r0⟩ := trodAll_cons hA
  obtain ⟨v1, vs1, d1, ds1, p1, q1, rfl, rfl, rfl, h1, r1⟩ := trodAll_cons r0
  obtain ⟨v2, vs2, d2, ds2, p2, q2, rfl, rfl, rfl, h2, r2⟩ := trodAll_cons r1
  obtain ⟨v3, vs3, d3, ds3, p3, q3, rfl, rfl, rfl, h3, r3⟩ := trodAll_cons r2
  obtain ⟨rfl, rfl, rfl⟩ := trodAll_nil r3
  obtain rfl : args = #[v0, v1, v2, v3] := by cases args; simp_all
  obtain ⟨rfl, rfl⟩ := trodVars_none hV
  have lt0 : ∀ x ∈ p0, x.block < W.heap.size := by obtain ⟨m, hm⟩ := h0; exact DataW.trod_lt m _ _ _ hm
  obtain ⟨l0, w0, e0⟩ := in_sys (hval 0 _ v0 rfl rfl) h0
  have lt1 : ∀ x ∈ p1, x.block < W.heap.size := by obtain ⟨m, hm⟩ := h1; exact DataW.trod_lt m _ _ _ hm
  obtain ⟨n1, t1, g1, k1, e1⟩ := in_ask (hval 1 _ v1 rfl rfl) h1
  have lt2 : ∀ x ∈ p2, x.block < W.heap.size := by obtain ⟨m, hm⟩ := h2; exact DataW.trod_lt m _ _ _ hm
  obtain ⟨n2, e2, w2⟩ := in_int Try.underlying3 (hval 2 _ v2 rfl rfl) h2
  have lt3 : ∀ x ∈ p3, x.block < W.heap.size := by obtain ⟨m, hm⟩ := h3; exact DataW.trod_lt m _ _ _ hm
  obtain ⟨n3, e3, w3⟩ := in_int Try.underlying3 (hval 3 _ v3 rfl rfl) h3
  clear hA0 hval0
  refine (bridge (args := [syV l0, asV n1 t1 g1 k1, I n2, I n3]) (ra := #[v0, v1, v2, v3]) (c10 l0 n1 t1 g1 k1 n2 n3 [] w0) rfl (by intro a ha; simp at ha; rcases ha with rfl | rfl | rfl | rfl <;> rfl) (fun i => ?_)).mono fun e W' ⟨he, bel⟩ => ?_
  · match i with
    | 0 => exact e0
    | 1 => exact e1
    | 2 => exact e2
    | 3 => exact e3
    | i + 4 => exact .junk _
  · subst he
    exact ⟨_, rfl, _, _, _, [], _, [], hW', trodAll_mk1 (shut_bool Try.underlying4 _), (trodAll_cons_mk (Below.trod laidOut (by kernel_rfl) (of_decide_eq_true (by kernel_rfl)) h0 bel lt0) (trodAll_cons_mk (Below.trod laidOut (by kernel_rfl) (of_decide_eq_true (by kernel_rfl)) h1 bel lt1) (trodAll_cons_mk (Below.trod laidOut (by kernel_rfl) (of_decide_eq_true (by kernel_rfl)) h2 bel lt2) (trodAll_cons_mk (Below.trod laidOut (by kernel_rfl) (of_decide_eq_true (by kernel_rfl)) h3 bel lt3) trodAll_mk0)))), rfl, bel.frame _, fun h => by cases h⟩
theorem over : Rows.numeralUsesRow.holds Try.pinned (OpenSpec.ofChange Rows.numeralUsesSpec) :=
  OpenClaim.holds_of_wide 10 Try.f10 rfl rfl rfl rfl rfl rfl rfl ⟨rfl, rfl, rfl, rfl, rfl⟩ rfl rfl rfl rfl rfl (by kernel_rfl) Try.func10 (by kernel_rfl)
    (of_decide_eq_true (by kernel_rfl)) (by unfold Func.isWrapper; first | (rw [if_pos (by decide +kernel)]; kernel_rfl) | (rw [if_neg (by decide +kernel)]; exact ⟨rfl, rfl⟩))
    (fun os started H enc _ => lifted os started H enc)
theorem numeralUses_holds : Rows.NumeralUsesSaid := over
#print axioms numeralUses_holds
end Go.Proofs.Ytgodfjbmblghnaa

