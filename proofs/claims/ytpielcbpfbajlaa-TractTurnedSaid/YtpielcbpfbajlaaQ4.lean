/- The law TractTurned of the given program returns true for any play (a shape, feeds, areas), and leaves all as it was. No condition. -/
import Derived.Test.YtpielcbpfbajlaaP6
import Derived.Test.YtpielcbpfbajlaaProg
import Derived.Test.YtpielcbpfbajlaaRows
set_option linter.unusedVariables false
set_option maxRecDepth 20000
set_option maxHeartbeats 4000000
namespace Go.Proofs.Ytpielcbpfbajlaa
open Go Go.Ab Go.Proofs
def an4 : An := { imm := [1, 11, 13], jn := [(2, [1, 23]), (5, [1, 3, 4, 5, 6]), (6, [1, 3, 5, 50]), (13, [1, 3, 5, 7, 8, 9]), (15, [1, 3, 5, 7, 8, 9, 10]), (20, [1, 3, 5, 7, 8, 11, 12]), (22, [1, 3, 5, 7, 122])], lp := [(8, [1, 3, 5, 7]), (12, [1, 3, 5, 7, 8, 9])], loud := [], ord := [] }
def vc4 (C : Cb) (a0 : V) (H : Hp) (R : List V → Hp → Prop) : Prop :=
 C.aBx true 9 a0.nod H fun (v1 : V) (H2 : Hp) =>
 Jn (fun (l3 : List V) (H4 : Hp) =>
 aCond (l3.getD 1 .junk).nod (
 C.callE 17 [] H4 fun (v6 : V) (H7 : Hp) =>
 R [v6] H7) (
 C.aFA 0 6 true (l3.getD 0 .junk).nod fun (v8 : V) =>
 C.aLd 6 true false v8.nod H4 fun (v9 : V) (H10 : Hp) =>
 C.callE 25 [v9.nod] H10 fun (v11 : V) (H12 : Hp) =>
 C.aExt 0 v11.nod.nod fun (v13 : V) =>
 C.aExt 1 v11.nod.nod fun (v14 : V) =>
 Jn (fun (l15 : List V) (H16 : Hp) =>
 Jn (fun (l18 : List V) (H19 : Hp) =>
 aCond (l18.getD 3 .junk).nod (
 R [(B false)] H19) (
 LoopA (fun (l21 : List V) (H22 : Hp) (K23 : List V → Hp → Prop) =>
 C.aFA 6 1 false (l21.getD 0 .junk).nod fun (v24 : V) =>
 C.aLd 1 false false v24.nod H22 fun (v25 : V) (H26 : Hp) =>
 C.aLen v25.nod fun (v27 : V) =>
 C.aBin (Try.prog.underlying 3) .lss (l21.getD 3 .junk).nod.nod v27.nod fun (v28 : V) =>
 aCond v28.nod (
 LoopA (fun (l29 : List V) (H30 : Hp) (K31 : List V → Hp → Prop) =>
 C.aFA 6 1 false (l29.getD 0 .junk).nod fun (v32 : V) =>
 C.aLd 1 false false v32.nod H30 fun (v33 : V) (H34 : Hp) =>
 C.aIx 1 v33.nod (l29.getD 3 .junk).nod.nod fun (v35 : V) =>
 C.aLd 1 false false v35.nod H34 fun (v36 : V) (H37 : Hp) =>
 C.aLen v36.nod fun (v38 : V) =>
 C.aBin (Try.prog.underlying 3) .lss (l29.getD 5 .junk).nod.nod v38.nod fun (v39 : V) =>
 aCond v39.nod (
 Jn (fun (l40 : List V) (H41 : Hp) =>
 C.aBin (Try.prog.underlying 3) .add (l40.getD 5 .junk).nod.nod (I 1) fun (v43 : V) =>
 K31 [(l40.getD 0 .junk), (l40.getD 1 .junk), (l40.getD 2 .junk), (l40.getD 3 .junk), (l40.getD 4 .junk), v43] H41)
 (fun (R42 : List V → Hp → Prop) =>
 Jn (fun (l44 : List V) (H45 : Hp) =>
 C.aFA 1 1 false (l44.getD 6 .junk).nod fun (v47 : V) =>
 C.aLd 1 false false v47.nod H45 fun (v48 : V) (H49 : Hp) =>
 C.aBin (Try.prog.underlying 3) .lss v48.nod (I (-500)) fun (v50 : V) =>
 aCond v50.nod (
 C.callE 17 [] H49 fun (v51 : V) (H52 : Hp) =>
 R [v51] H52) (
 C.aFA 1 1 false (l44.getD 6 .junk).nod fun (v53 : V) =>
 C.aLd 1 false false v53.nod H49 fun (v54 : V) (H55 : Hp) =>
 C.aUn .neg v54.nod fun (v56 : V) =>
 C.aFA 1 1 false (l44.getD 6 .junk).nod fun (v57 : V) =>
 C.aSt 1 v57.nod v56 H55 fun (v58 : V) (H59 : Hp) =>
 C.aLd 2 true false (l44.getD 6 .junk).nod H59 fun (v60 : V) (H61 : Hp) =>
 C.aBS 2 1 (V.agg [(I 0), (I 0)]) [(0, v60.nod)] fun (v62 : V) =>
 C.aApp 2 16 (l44.getD 4 .junk) v62.nod fun (v63 : V) =>
 R42 [(l44.getD 0 .junk), (l44.getD 1 .junk), (l44.getD 2 .junk), (l44.getD 3 .junk), v63, (l44.getD 5 .junk)] H61))
 (fun (R46 : List V → Hp → Prop) =>
 C.aFA 6 1 false (l29.getD 0 .junk).nod fun (v64 : V) =>
 C.aLd 1 false false v64.nod H37 fun (v65 : V) (H66 : Hp) =>
 C.aIx 1 v65.nod (l29.getD 3 .junk).nod.nod fun (v67 : V) =>
 C.aLd 1 false false v67.nod H66 fun (v68 : V) (H69 : Hp) =>
 C.aIx 2 v68.nod (l29.getD 5 .junk).nod.nod fun (v70 : V) =>
 C.aLd 2 true false v70.nod H69 fun (v71 : V) (H72 : Hp) =>
 C.aBx false 2 (V.agg [(I 0), (I 0)]) H72 fun (v73 : V) (H74 : Hp) =>
 C.aSt 2 v73.nod v71 H74 fun (v75 : V) (H76 : Hp) =>
 R46 [(l29.getD 0 .junk), (l29.getD 1 .junk), (l29.getD 2 .junk), (l29.getD 3 .junk), (l29.getD 4 .junk), (l29.getD 5 .junk), v73] H76))) (
 Jn (fun (l77 : List V) (H78 : Hp) =>
 C.callE 26 [(l77.getD 2 .junk).nod.nod, (l77.getD 4 .junk).nod.nod] H78 fun (v80 : V) (H81 : Hp) =>
 C.aExt 0 v80.nod.nod fun (v82 : V) =>
 C.aExt 1 v80.nod.nod fun (v83 : V) =>
 C.aBx true 2 v82.nod H81 fun (v84 : V) (H85 : Hp) =>
 Jn (fun (l86 : List V) (H87 : Hp) =>
 aCond (l86.getD 4 .junk).nod (
 R [(B false)] H87) (
 C.aBin (Try.prog.underlying 3) .add (l86.getD 3 .junk).nod.nod (I 1) fun (v89 : V) =>
 K23 [(l86.getD 0 .junk), (l86.getD 1 .junk), (l86.getD 2 .junk), v89] H87))
 (fun (R88 : List V → Hp → Prop) =>
 C.aBin (Try.prog.underlying 27) .neq (l77.getD 6 .junk).nod.nod v83.nod.nod fun (v90 : V) =>
 Jv (fun (v91 : V) (H92 : Hp) =>
 Jv (fun (v102 : V) (H103 : Hp) =>
 R88 [(l77.getD 0 .junk), (l77.getD 1 .junk), (l77.getD 2 .junk), (l77.getD 3 .junk), v102] H103)
 (fun (R104 : V → Hp → Prop) =>
 aG v91.nod false (
 C.aFA 1 1 false (l77.getD 5 .junk).nod fun (v105 : V) =>
 C.aLd 1 false false v105.nod H92 fun (v106 : V) (H107 : Hp) =>
 C.aFA 1 1 false v84.nod fun (v108 : V) =>
 C.aLd 1 false false v108.nod H107 fun (v109 : V) (H110 : Hp) =>
 C.aUn .neg v109.nod fun (v111 : V) =>
 C.aBin (Try.prog.underlying 3) .neq v106.nod v111.nod fun (v112 : V) =>
 R104 v112.nod H110) (
 R104 (B true) H92)))
 (fun (R93 : V → Hp → Prop) =>
 aG v90.nod false (
 C.aFA 0 1 false (l77.getD 5 .junk).nod fun (v94 : V) =>
 C.aLd 1 false false v94.nod H85 fun (v95 : V) (H96 : Hp) =>
 C.aFA 0 1 false v84.nod fun (v97 : V) =>
 C.aLd 1 false false v97.nod H96 fun (v98 : V) (H99 : Hp) =>
 C.aUn .neg v98.nod fun (v100 : V) =>
 C.aBin (Try.prog.underlying 3) .neq v95.nod v100.nod fun (v101 : V) =>
 R93 v101.nod H99) (
 R93 (B true) H85))))
 (fun (R79 : List V → Hp → Prop) =>
 C.aFA 6 1 false (l29.getD 0 .junk).nod fun (v113 : V) =>
 C.aLd 1 false false v113.nod H37 fun (v114 : V) (H115 : Hp) =>
 C.aIx 1 v114.nod (l29.getD 3 .junk).nod.nod fun (v116 : V) =>
 C.aLd 1 false false v116.nod H115 fun (v117 : V) (H118 : Hp) =>
 C.callE 26 [(l29.getD 1 .junk).nod.nod, v117.nod] H118 fun (v119 : V) (H120 : Hp) =>
 C.aExt 0 v119.nod.nod fun (v121 : V) =>
 C.aExt 1 v119.nod.nod fun (v122 : V) =>
 C.aBx true 2 v121.nod H120 fun (v123 : V) (H124 : Hp) =>
 R79 [(l29.getD 0 .junk), (l29.getD 1 .junk), (l29.getD 2 .junk), (l29.getD 3 .junk), (l29.getD 4 .junk), v123, v122] H124)))
 [(l21.getD 0 .junk), (l21.getD 1 .junk), (l21.getD 2 .junk), (l21.getD 3 .junk), (V.arr [] .full), (I 0)] H26) (
 C.callE 27 [(l21.getD 1 .junk).nod.nod] H26 fun (v125 : V) (H126 : Hp) =>
 C.callE 27 [(l21.getD 2 .junk).nod.nod] H126 fun (v127 : V) (H128 : Hp) =>
 C.aBin (Try.prog.underlying 3) .eql v125.nod v127.nod fun (v129 : V) =>
 Jv (fun (v130 : V) (H131 : Hp) =>
 R [v130] H131)
 (fun (R132 : V → Hp → Prop) =>
 aG v129.nod true (
 C.callE 17 [] H128 fun (v133 : V) (H134 : Hp) =>
 R132 v133.nod H134) (
 R132 (B false) H128))))
 [(l18.getD 0 .junk), (l18.getD 1 .junk), (l18.getD 2 .junk), (I 0)] H19))
 (fun (R20 : List V → Hp → Prop) =>
 C.aBin (Try.prog.underlying 27) .neq (l15.getD 2 .junk).nod.nod (I 0) fun (v135 : V) =>
 Jv (fun (v136 : V) (H137 : Hp) =>
 Jv (fun (v140 : V) (H141 : Hp) =>
 Jv (fun (v144 : V) (H145 : Hp) =>
 R20 [(l15.getD 0 .junk), (l15.getD 1 .junk), (l15.getD 3 .junk), v144] H145)
 (fun (R146 : V → Hp → Prop) =>
 aG v140.nod false (
 C.aNilP (Try.prog.underlying 41) .eql (l15.getD 3 .junk).nod.nod fun (v147 : V) =>
 R146 v147.nod H141) (
 R146 (B true) H141)))
 (fun (R142 : V → Hp → Prop) =>
 aG v136.nod false (
 C.aNilP (Try.prog.underlying 41) .eql (l15.getD 1 .junk).nod.nod fun (v143 : V) =>
 R142 v143.nod H137) (
 R142 (B true) H137)))
 (fun (R138 : V → Hp → Prop) =>
 aG v135.nod false (
 C.aBin (Try.prog.underlying 27) .neq (l15.getD 4 .junk).nod.nod (I 0) fun (v139 : V) =>
 R138 v139.nod H16) (
 R138 (B true) H16))))
 (fun (R17 : List V → Hp → Prop) =>
 C.aFA 0 6 true (l3.getD 0 .junk).nod fun (v148 : V) =>
 C.aLd 6 true false v148.nod H12 fun (v149 : V) (H150 : Hp) =>
 C.callE 25 [v149.nod] H150 fun (v151 : V) (H152 : Hp) =>
 C.aExt 0 v151.nod.nod fun (v153 : V) =>
 C.aExt 1 v151.nod.nod fun (v154 : V) =>
 R17 [(l3.getD 0 .junk), v13, v14, v153, v154] H152)))
 (fun (R5 : List V → Hp → Prop) =>
 C.aLd 9 true false v1.nod H2 fun (v155 : V) (H156 : Hp) =>
 C.callE 24 [v155.nod] H156 fun (v157 : V) (H158 : Hp) =>
 C.aUn .not v157.nod fun (v159 : V) =>
 Jv (fun (v160 : V) (H161 : Hp) =>
 R5 [v1, v160] H161)
 (fun (R162 : V → Hp → Prop) =>
 aG v159.nod false (
 C.aFA 0 6 true v1.nod fun (v163 : V) =>
 C.aLd 6 true false v163.nod H158 fun (v164 : V) (H165 : Hp) =>
 C.callE 19 [v164.nod] H165 fun (v166 : V) (H167 : Hp) =>
 C.aUn .not v166.nod fun (v168 : V) =>
 R162 v168.nod H167) (
 R162 (B true) H158)))
theorem wf4 : (Nat.ble 1 Try.f4.ntmps && wfC an4 Try.f4.ntmps (Try.f4.body.getD .skip)) = true := by kernel_rfl
theorem tie4 (C : Cb) (a0 : V) (H : Hp) (R : List V → Hp → Prop) : wpG Try.prog C an4 (Try.f4.body.getD .skip) (argF [a0]) H (retG Try.prog C Try.f4 R) (fun _ _ _ => False) (retG Try.prog C Try.f4 R) = vc4 C a0 H R := by kernel_rfl
theorem mk4 (a0 : V) {H : Hp} {v : V} {H1 : Hp} (hd : v.Nd) (hn : H.length ≤ H1.length) (hb : H1 = H ∨ ∀ (b : Nat) (blk : Blk), H1[b]? = some blk → H[b]? = some blk ∨ BelB H1.length blk) (h : vc4 (real Try.prog) a0 H (retF v H1)) : Ret Try.prog 4 [a0] H v H1 :=
  ret_mk (an := an4) hm Try.call4 Try.func4 rfl wf4 hd hn hb (Eq.mpr (tie4 (real Try.prog) a0 H (retF v H1)) h)
theorem mkE4 (a0 : V) {H : Hp} {Q : V → Hp → Prop} (h : vc4 (real Try.prog) a0 H (retW Q)) : RetE Try.prog 4 [a0] H Q :=
  retE_mk (an := an4) hm Try.call4 Try.func4 rfl wf4 (Eq.mpr (tie4 (real Try.prog) a0 H (retW Q)) h)
theorem mko4 (a0 : V) {H : Hp} {xs : List V} {H1 : Hp} (hn : H.length ≤ H1.length) (hb : H1 = H ∨ ∀ (b : Nat) (blk : Blk), H1[b]? = some blk → H[b]? = some blk ∨ BelB H1.length blk) (h : vc4 (real Try.prog) a0 H (retO xs H1)) : Ret Try.prog 4 [a0] H (.arr xs .own) H1 :=
  ret_mko (an := an4) (t := 2) hm Try.call4 Try.func4 rfl wf4 rfl hn hb (Eq.mpr (tie4 (real Try.prog) a0 H (retO xs H1)) h)
end Go.Proofs.Ytpielcbpfbajlaa


set_option linter.unusedVariables false
set_option linter.unusedSimpArgs false
set_option linter.unnecessarySimpa false
set_option maxRecDepth 20000
set_option maxHeartbeats 2000000
namespace Go.Proofs.Ytpielcbpfbajlaa
open Go Go.Ab Go.Proofs
attribute [local congr] g_bin g_nilS g_nilP g_un g_ext g_bx g_fa g_ld g_st g_ix g_ixA g_slc g_mk g_bs g_bd g_nc g_cv g_len g_lenT g_app g_appB g_cpy g_mm g_call g_callG g_calm g_calmG g_range g_res g_pick g_cond g_loop g_Jv g_eqS g_eqP g_fd g_ixT g_ta g_lkp g_upd g_mkM g_appS g_inv g_callE g_callEG g_invE g_zr
theorem run_ng {S T : TS} {F : Int} (h : S.Ng T) (hS : S.In F) (hT : T.In F) (Fs : List (List (Int × Int))) (hF : F + 500 * Fs.length ≤ 10000000000) : (S.run Fs).Ng (T.run (Fs.map (List.map TS.ng))) := by
  induction Fs generalizing S T F with
  | nil => exact h
  | cons l Fs ih =>
    have h0 := hS.f0
    simp only [List.length_cons] at hF
    exact ih (h.nx (hS.ok (by omega)) (hT.ok (by omega)) l) (hS.nx (by omega) l) (hT.nx (by omega) _) (by omega)
def gB (y : List (Int × Int)) : Hp := y.map fun f => .cells [I f.1, I (0 - f.2)]
theorem c4 (A D : List Int) (j g l n : Int) (Fd : List (List (Int × Int))) (Ar Br : List (List Int)) (hR : ∀ y, y ∈ Fd → ∀ f, f ∈ y → R64 f.2) (H : Hp) : Ret Try.prog 4 [plA A D j g l n Fd Ar Br] H (B true) H := by
  refine mk4 _ rfl (Nat.le_refl _) (.inl rfl) ?_
  simp only [vc4, real]
  repeat (first | (with_reducible first | refine jn_go ?_ | refine ud_go ?_ | refine tr_go ?_ | (refine Hd.go ?_; intro K Q hK hQ; simp only [nod_agg, List.map_cons, nodL_ints, nd_no, nodL_imm, nodL_arr, nodL_lists, List.map_nil, e_bxI, okE_agg, lv_cons, List.length_nil, Nat.zero_add, Nat.reduceAdd, all_c, ck_ints, ck_I, ck_arr, ck_lists, all_n, Bool.and_self, and_true, true_and, nod_cptr, e_ldcA]; subst hK hQ) | refine rn_go ?_ | refine rv_go ?_ | refine jv_go ?_) | refine sd ?_)
  refine call_of (c24 A D j g l n Fd Ar Br _) ?_
  repeat (first | (with_reducible first | refine jn_go ?_ | refine ud_go ?_ | refine tr_go ?_ | (refine Hd.go ?_; intro K Q hK hQ; simp only [nod_imm, e_not, nod_cptr, e_facA, Nat.zero_add, lv_cons, List.length_nil, Nat.reduceAdd, Nat.reduceLeDiff, dr_0, tk_s, tk_0, e_ldcA, nod_agg, List.map_cons, nodL_ints, nd_no, nodL_imm, List.map_nil, true_and, e_gF]; subst hK hQ) | refine rn_go ?_ | refine rv_go ?_ | refine jv_go ?_) | refine sd ?_)
  by_cases hf : fits A D Fd Ar Br = true
  · rw [hf]
    repeat (first | (with_reducible first | refine jn_go ?_ | refine ud_go ?_ | refine tr_go ?_ | (refine Hd.go ?_; intro K Q hK hQ; simp only [Bool.not_true, cond_false]; subst hK hQ) | refine rn_go ?_ | refine rv_go ?_ | refine jv_go ?_) | refine sd ?_)
    have hf' := fits_iff.1 hf
    refine call_of (c19 A D j g l n _ ⟨by omega, by omega⟩) ?_
    by_cases hS : ShOk A D j g l n
    · rw [decide_eq_true hS]
      repeat (first | (with_reducible first | refine jn_go ?_ | refine ud_go ?_ | refine tr_go ?_ | (refine Hd.go ?_; intro K Q hK hQ; simp only [nod_imm, e_not, Bool.not_true, List.getD_cons_succ, List.getD_cons_zero, e_cond, Bool.false_eq_true, if_false, nod_cptr, e_facA, Nat.zero_add, lv_cons, List.length_nil, Nat.reduceAdd, Nat.reduceLeDiff, dr_0, tk_s, tk_0, true_and, e_ldcA, nod_agg, List.map_cons, nodL_ints, nd_no, nodL_imm, List.map_nil]; subst hK hQ) | refine rn_go ?_ | refine rv_go ?_ | refine jv_go ?_) | refine sd ?_)
      refine callE_of (c25 A D j g l n _ ⟨by omega, by omega⟩) ?_
      intro v H1 hq
      rw [if_pos hS] at hq
      obtain ⟨b, bA, bD, bw, rfl, hb, hT, hF⟩ := hq
      repeat (first | (with_reducible first | refine jn_go ?_ | refine ud_go ?_ | refine tr_go ?_ | (refine Hd.go ?_; intro K Q hK hQ; simp only [nod_tup, List.map_cons, nod2_imm, List.map_nil, e_x20, e_x21, List.getD_cons_zero, nod_cptr, e_facA, Nat.zero_add, lv_cons, List.length_nil, Nat.reduceAdd, Nat.reduceLeDiff, dr_0, tk_s, tk_0, true_and, e_ldcA, nod_agg, nodL_ints, nd_no, nodL_imm]; subst hK hQ) | refine rn_go ?_ | refine rv_go ?_ | refine jv_go ?_) | refine sd ?_)
      refine callE_of (c25 A D j g l n _ ⟨by omega, by omega⟩) ?_
      intro v H2 hq
      rw [if_pos hS] at hq
      obtain ⟨b', bA', bD', bw', rfl, hb', hT', hF'⟩ := hq
      repeat (first | (with_reducible first | refine jn_go ?_ | refine ud_go ?_ | refine tr_go ?_ | (refine Hd.go ?_; intro K Q hK hQ; simp only [nod_tup, List.map_cons, nod2_ptr, nod2_imm, List.map_nil, e_x20, e_x21, List.getD_cons_zero, List.getD_cons_succ, nod_imm, Try.underlying27, e_neq, decide_true, Bool.not_true, e_gF, cond_false, j_one, nod_ptr, Try.underlying41, e_npeP, e_cond, Bool.false_eq_true, if_false]; subst hK hQ) | refine rn_go ?_ | refine rv_go ?_ | refine jv_go ?_) | refine sd ?_)
      generalize hS0 : TS.new A D j g l n = S0 at *
      have in0 : S0.In 0 := by rw [← hS0]; exact TS.in_new hS
      have st0 : S0.st = 0 := by rw [← hS0]; rfl
      have ng0 : S0.Ng S0 := by rw [← hS0]; exact TS.Ng.new A D j g l n
      have o1 := hT.off hb'.1
      have o2 := off_hi (S := S0) hb' hT.lt.1
      have hbb' : b' < H2.length := hT'.lt.1
      have hHb' : H.length ≤ b' := Nat.le_trans hF.1 hb'.1
      have rok : ∀ i, i ≤ Fd.length → (S0.run (Fd.take i)).In 30000 ∧ 0 ≤ (S0.run (Fd.take i)).st ∧ (S0.run (Fd.take i)).st ≤ 60 ∧ (S0.run ((Fd.take i).map (List.map TS.ng))).In 30000 ∧ 0 ≤ (S0.run ((Fd.take i).map (List.map TS.ng))).st ∧ (S0.run ((Fd.take i).map (List.map TS.ng))).st ≤ 60 ∧ (S0.run (Fd.take i)).Ng (S0.run ((Fd.take i).map (List.map TS.ng))) := fun i hi => by
        have hl : (Fd.take i).length = i := by rw [List.length_take]; omega
        have hl2 : ((Fd.take i).map (List.map TS.ng)).length = i := by rw [List.length_map]; exact hl
        have q := TS.run_ok in0 (by omega) (Fd.take i) (by omega)
        have q2 := TS.run_ok in0 (by omega) ((Fd.take i).map (List.map TS.ng)) (by omega)
        exact ⟨q.1.mono (by omega), q.2.1, by omega, q2.1.mono (by omega), q2.2.1, by omega, run_ng ng0 in0 in0 _ (by omega)⟩
      refine loop_of (fun q : Nat × Hp × Nat × Nat => q.1 ≤ Fd.length ∧ TubeAt q.2.1 b bA bD q.2.2.1 (S0.run (Fd.take q.1)) ∧ TubeAt q.2.1 b' bA' bD' q.2.2.2 (S0.run ((Fd.take q.1).map (List.map TS.ng))) ∧ Off b bA bD q.2.2.1 (S0.run (Fd.take q.1)) b' ∧ Off b' bA' bD' q.2.2.2 (S0.run ((Fd.take q.1).map (List.map TS.ng))) b ∧ Fr0 H q.2.1)
        (fun q => [.cptr (plA A D j g l n Fd Ar Br), .ptr b 0, .ptr b' 0, I q.1]) (fun q => q.2.1) (fun q => Fd.length - q.1) (0, H2, bw, bw') ⟨Nat.zero_le _, hT.fr hF', hT', o1, o2, hF.trans hF'⟩ rfl rfl ?_
      rintro ⟨i, G, w1, w2⟩ ⟨hi, t1, t2, p1, p2, hG⟩
      dsimp only at hi t1 t2 p1 p2 hG
      obtain ⟨r1, r2, r3, r4, r5, r6, r7⟩ := rok i hi
      repeat (first | (with_reducible first | refine jn_go ?_ | refine ud_go ?_ | refine tr_go ?_ | (refine Hd.go ?_; intro K Q hK hQ; simp only [List.getD_cons_zero, nod_cptr, e_fac, Nat.reduceAdd, lv_cons, List.length_nil, Nat.zero_add, Nat.reduceLeDiff, List.getD_cons_succ, true_and, e_ldcV, nod_arr, nd_no, e_lenA, List.length_map, nod_imm, Try.underlying3, e_lss, e_cond, decide_eq_true_eq]; subst hK hQ) | refine rn_go ?_ | refine rv_go ?_ | refine jv_go ?_) | refine sd ?_)
      by_cases hlt : i < Fd.length
      · have d : (i : Int) < Fd.length := by omega
        have hy := hf'.2.2.2.2.1 i hlt
        have hyR := hR _ (getD_memA Fd [] hlt)
        have eT1 := TS.run_take S0 Fd hlt
        have eT2 : S0.run ((Fd.take (i + 1)).map (List.map TS.ng)) = (S0.run ((Fd.take i).map (List.map TS.ng))).nx ((Fd.getD i []).map TS.ng) := by rw [take_snocA Fd [] hlt, List.map_append, List.map_cons, List.map_nil, TS.run_snoc]
        generalize hyy : Fd.getD i [] = y at *
        repeat (first | (with_reducible first | refine jn_go ?_ | refine ud_go ?_ | refine tr_go ?_ | (refine Hd.go ?_; intro K Q hK hQ; simp only [d, if_true]; subst hK hQ) | refine rn_go ?_ | refine rv_go ?_ | refine jv_go ?_) | refine sd ?_)
        refine loop_of (fun k : Nat => k ≤ y.length) (fun k => [.cptr (plA A D j g l n Fd Ar Br), .ptr b 0, .ptr b' 0, I i, .arr (((y.take k).map TS.ng).map fdV) (oF k), I k]) (fun k => G ++ gB (y.take k)) (fun k => y.length - k) 0 (Nat.zero_le _) rfl (by simp [gB]) ?_
        intro k hk
        have hX0 : Fr0 G (G ++ gB (y.take k)) := Fr0.app _ _
        generalize hX : G ++ gB (y.take k) = X at *
        repeat (first | (with_reducible first | refine jn_go ?_ | refine ud_go ?_ | refine tr_go ?_ | (refine Hd.go ?_; intro K Q hK hQ; simp only [List.getD_cons_zero, nod_cptr, e_fac, Nat.reduceAdd, lv_cons, List.length_nil, Nat.zero_add, Nat.reduceLeDiff, List.getD_cons_succ, true_and, e_ldcV, nod_arr, nd_no, nod_imm, ixF, Int.toNat_natCast, hyy, e_lenA, List.length_map, Try.underlying3, e_lss, e_cond, decide_eq_true_eq]; subst hK hQ) | refine rn_go ?_ | refine rv_go ?_ | refine jv_go ?_) | refine sd ?_)
        by_cases hkt : k < y.length
        · have d : (k : Int) < y.length := by omega
          have htl : (y.take k).length = k := by rw [List.length_take]; omega
          have hv := hyR _ (getD_memA y (0, 0) hkt)
          unfold R64 at hv
          repeat (first | (with_reducible first | refine jn_go ?_ | refine ud_go ?_ | refine tr_go ?_ | (refine Hd.go ?_; intro K Q hK hQ; simp only [d, if_true, List.getD_cons_zero, nod_cptr, e_fac, Nat.reduceAdd, lv_cons, List.length_nil, Nat.zero_add, Nat.reduceLeDiff, List.getD_cons_succ, true_and, e_ldcV, nod_arr, nd_no, nod_imm, ixF, Int.toNat_natCast, hyy, ixV, e_ldcA, e_bx, okE_agg, all_c, ck_I, all_n, Bool.and_self, and_true, cl_agg, nod_ptr, e_sc0, stV_agg, List.map_cons, nodL_imm, List.map_nil, spl_0, spl_n, e_fa, e_lc0, Try.underlying3, Int.reduceNeg, e_lss, e_cond, decide_eq_true_eq]; subst hK hQ) | refine rn_go ?_ | refine rv_go ?_ | refine jv_go ?_) | refine sd ?_)
          by_cases hm : (y.getD k (0, 0)).2 < -500
          · repeat (first | (with_reducible first | refine jn_go ?_ | refine ud_go ?_ | refine tr_go ?_ | (refine Hd.go ?_; intro K Q hK hQ; simp only [Int.reduceNeg, hm, if_true]; subst hK hQ) | refine rn_go ?_ | refine rv_go ?_ | refine jv_go ?_) | refine sd ?_)
            refine call_of (c17 _) ?_
            with_reducible first | refine rv_go ?_ | refine rn_go ?_ | skip
            exact end1F (hG.trans (hX0.trans (Fr0.app _ _)))
          · repeat (first | (with_reducible first | refine jn_go ?_ | refine ud_go ?_ | refine tr_go ?_ | (refine Hd.go ?_; intro K Q hK hQ; simp only [Int.reduceNeg, hm, if_false, List.getD_cons_succ, List.getD_cons_zero, nod_ptr, e_fa, Nat.zero_add, e_lc0, Nat.reduceAdd, lv_cons, List.length_nil, Nat.reduceLeDiff, nod_imm, true_and, e_neg, e_sc0, stV_imm, okE_I, cl_imm, spl_s, spl_0, spl_n, e_lA0, dr_0, tk_s, tk_0, nod_agg, List.map_cons, nodL_imm, List.map_nil, bs1F, nod_arr, nd_full, app1N, oF_ap, List.length_map, Try.underlying3, e_add]; subst hK hQ) | refine rn_go ?_ | refine rv_go ?_ | refine jv_go ?_) | refine sd ?_)
            refine ⟨k + 1, by omega, ?_, ?_, by omega⟩
            · rw [take_snocA y (0, 0) hkt, List.map_append]; rfl
            · rw [take_snocA y (0, 0) hkt, ← hX]
              unfold gB
              rw [List.map_append, ← List.append_assoc]; rfl
        · have d : ¬ (k : Int) < y.length := by omega
          have ek : k = y.length := by omega
          subst ek
          rw [List.take_length] at *
          have hX0' : b' < X.length := Nat.lt_of_lt_of_le t2.lt.1 hX0.1
          repeat (first | (with_reducible first | refine jn_go ?_ | refine ud_go ?_ | refine tr_go ?_ | (refine Hd.go ?_; intro K Q hK hQ; simp only [d, if_false, List.getD_cons_zero, nod_cptr, e_fac, Nat.reduceAdd, lv_cons, List.length_nil, Nat.zero_add, Nat.reduceLeDiff, List.getD_cons_succ, true_and, e_ldcV, nod_arr, nd_no, nod_imm, ixF, Int.toNat_natCast, hyy, nod_ptr]; subst hK hQ) | refine rn_go ?_ | refine rv_go ?_ | refine jv_go ?_) | refine sd ?_)
          refine cStep (f := .no) (t1.fr hX0) r1 (by omega) r2 (by omega) (by omega) (.inl rfl) ?_
          intro G2 w1' hw1 u1 f1
          repeat (first | (with_reducible first | refine jn_go ?_ | refine ud_go ?_ | refine tr_go ?_ | (refine Hd.go ?_; intro K Q hK hQ; simp only [nod_tup, List.map_cons, nod2_agg, nodL_imm, List.map_nil, nod2_imm, e_x20, e_x21, nod_agg, e_bxI, okE_agg, lv_cons, List.length_nil, Nat.zero_add, Nat.reduceAdd, all_c, ck_I, all_n, Bool.and_self, and_true, true_and, List.getD_cons_zero, List.getD_cons_succ, nod_ptr, nod_arr]; subst hK hQ) | refine rn_go ?_ | refine rv_go ?_ | refine jv_go ?_) | refine sd ?_)
          refine cStep ((t2.fr hX0).frame f1 p2) r4 (by omega) r5 (by omega) (by rw [List.length_map]; omega) (nd_oF _) ?_
          intro G3 w2' hw2 u2 f2
          have e := r7.hd y
          rw [e.2.2, e.1, e.2.1] 
          have hbd := TS.hd_bd (r1.ok (by omega)) y
          generalize ((S0.run (Fd.take i)).hd y).1 = h1 at *
          generalize ((S0.run (Fd.take i)).hd y).2 = h2 at *
          have z1 : 0 - -h1 = h1 := by omega
          have z2 : 0 - -h2 = h2 := by omega
          repeat (first | (with_reducible first | refine jn_go ?_ | refine ud_go ?_ | refine tr_go ?_ | (refine Hd.go ?_; intro K Q hK hQ; simp only [nod_tup, List.map_cons, nod2_agg, nodL_imm, List.map_nil, nod2_imm, e_x20, e_x21, nod_agg, e_bxI, okE_agg, lv_cons, List.length_nil, Nat.zero_add, Nat.reduceAdd, all_c, ck_I, all_n, Bool.and_self, and_true, true_and, List.getD_cons_succ, List.getD_cons_zero, nod_imm, Try.underlying27, e_neq, decide_true, Bool.not_true, nod_cptr, Try.underlying3, e_fac, Nat.reduceLeDiff, e_ldc, e_neg, z1, e_gF, cond_false, j_side, j_one, z2, e_cond, Bool.false_eq_true, if_false, e_add]; subst hK hQ) | refine rn_go ?_ | refine rv_go ?_ | refine jv_go ?_) | refine sd ?_)
          refine ⟨(i + 1, G3, w1', w2'), ⟨by show i + 1 ≤ Fd.length; omega, ?_, ?_, ?_, ?_, ?_⟩, rfl, rfl, by show Fd.length - (i + 1) < Fd.length - i; omega⟩
          · show TubeAt G3 b bA bD w1' (S0.run (Fd.take (i + 1)))
            rw [eT1]
            exact u1.frame f2 (p1.nx y hw1 hX0')
          · show TubeAt G3 b' bA' bD' w2' (S0.run ((Fd.take (i + 1)).map (List.map TS.ng)))
            rw [eT2]; exact u2
          · show Off b bA bD w1' (S0.run (Fd.take (i + 1))) b'
            rw [eT1]; exact p1.nx y hw1 hX0'
          · show Off b' bA' bD' w2' (S0.run ((Fd.take (i + 1)).map (List.map TS.ng))) b
            rw [eT2]; exact p2.nx _ hw2 (Nat.lt_of_lt_of_le t1.lt.1 (Nat.le_trans hX0.1 f1.1))
          · exact ((hG.trans hX0).step f1 hb.1).step f2 hHb'
      · have d : ¬ (i : Int) < Fd.length := by omega
        have ei : i = Fd.length := by omega
        subst ei
        repeat (first | (with_reducible first | refine jn_go ?_ | refine ud_go ?_ | refine tr_go ?_ | (refine Hd.go ?_; intro K Q hK hQ; simp only [d, if_false, List.getD_cons_succ, List.getD_cons_zero, nod_ptr]; subst hK hQ) | refine rn_go ?_ | refine rv_go ?_ | refine jv_go ?_) | refine sd ?_)
        have ee := r7.en
        have eL : (S0.run (Fd.take Fd.length)).en ≤ 4000000000000000000 := Int.le_trans r1.en (by decide)
        refine call_of (c27 b bA bD w1 _ _ t1 (r1.ok (by omega)) eL) ?_
        repeat (first | (with_reducible first | refine jn_go ?_ | refine ud_go ?_ | refine tr_go ?_ | (refine Hd.go ?_; intro K Q hK hQ; simp only [List.getD_cons_succ, List.getD_cons_zero, nod_ptr]; subst hK hQ) | refine rn_go ?_ | refine rv_go ?_ | refine jv_go ?_) | refine sd ?_)
        refine call_of (c27 b' bA' bD' w2 _ _ t2 (r4.ok (by omega)) (by rw [ee]; exact eL)) ?_
        rw [ee]
        repeat (first | (with_reducible first | refine jn_go ?_ | refine ud_go ?_ | refine tr_go ?_ | (refine Hd.go ?_; intro K Q hK hQ; simp only [nod_imm, Try.underlying3, e_eql, decide_true, e_gT, cond_true]; subst hK hQ) | refine rn_go ?_ | refine rv_go ?_ | refine jv_go ?_) | refine sd ?_)
        refine call_of (c17 _) ?_
        with_reducible first | refine rv_go ?_ | refine rn_go ?_ | skip
        exact end1F hG
    · rw [decide_eq_false hS]
      repeat (first | (with_reducible first | refine jn_go ?_ | refine ud_go ?_ | refine tr_go ?_ | (refine Hd.go ?_; intro K Q hK hQ; simp only [nod_imm, e_not, Bool.not_false, List.getD_cons_succ, List.getD_cons_zero, e_cond, if_true]; subst hK hQ) | refine rn_go ?_ | refine rv_go ?_ | refine jv_go ?_) | refine sd ?_)
      refine call_of (c17 _) ?_
      with_reducible first | refine rv_go ?_ | refine rn_go ?_ | skip
      first | exact end1 (fzI _) | exact end1A (fzI _)
  · rw [Bool.eq_false_iff.2 hf]
    repeat (first | (with_reducible first | refine jn_go ?_ | refine ud_go ?_ | refine tr_go ?_ | (refine Hd.go ?_; intro K Q hK hQ; simp only [Bool.not_false, cond_true, List.getD_cons_succ, List.getD_cons_zero, nod_imm, e_cond, if_true]; subst hK hQ) | refine rn_go ?_ | refine rv_go ?_ | refine jv_go ?_) | refine sd ?_)
    refine call_of (c17 _) ?_
    with_reducible first | refine rv_go ?_ | refine rn_go ?_ | skip
    first | exact end1 (fzI _) | exact end1A (fzI _)
end Go.Proofs.Ytpielcbpfbajlaa


set_option linter.unusedVariables false
set_option linter.unusedSimpArgs false
set_option linter.unnecessarySimpa false
set_option maxRecDepth 20000
set_option maxHeartbeats 2000000
namespace Go.Proofs.Ytpielcbpfbajlaa
open Go Go.Ab Go.Proofs
attribute [local congr] g_bin g_nilS g_nilP g_un g_ext g_bx g_fa g_ld g_st g_ix g_ixA g_slc g_mk g_bs g_bd g_nc g_cv g_len g_lenT g_app g_appB g_cpy g_mm g_call g_callG g_calm g_calmG g_range g_res g_pick g_cond g_loop g_Jv g_eqS g_eqP g_fd g_ixT g_ta g_lkp g_upd g_mkM g_appS g_inv g_callE g_callEG g_invE g_zr
open Go.ChangeShapes Go.WideShapes Go.ChangeAt Go.RowKit
theorem own : ownKnob Try.prog.godebug = none := by kernel_rfl
theorem laidOut : laidOutB Try.prog = true := by kernel_rfl
set_option maxRecDepth 100000 in
theorem lifted (os : Os) (started : os.Started) (H : Type) (enc : TypeId × Value → H) :
    ReturnsInHanded {} Try.checked os 4 .any (Rows.tractTurnedSpec.pre6 enc Try.prog Try.f4 Rows.tractTurnedRow.domain false) (Rows.tractTurnedSpec.post enc Try.prog Try.f4 false true false false) := by
  refine returnsInHanded_of_change (C := Try.checked) own started (by kernel_rfl) Try.func4
    (ChangeSpec.witness6 (enc := enc) (C := Try.checked) false ⟨#[], #[.agg #[.slice none 0 0, .slice none 0 0, .int .i64 0, .int .i64 0, .int .i64 0, .int .i64 0, .slice none 0 0, .slice none 0 0, .slice none 0 0]], []⟩ 8 (by kernel_rfl) (by kernel_rfl) (by kernel_rfl) (by kernel_rfl)) ?_
  intro W base args ds gs before hval0 hW hcnd _
  have hval : ∀ (j : Nat) t v, Try.f4.params[j]? = some t → args[j]? = some v → Value.okWide Try.prog W .any base t v := hval0
  have hW' := hW
  obtain ⟨p, q, hA0, hV, rfl, hfz, hnd⟩ := hW
  have hA : DataW.TrodAll enc Try.prog W 0 (fun _ => true) true Try.f4.params.toList args.toList ds p := hA0
  rw [Try.params4] at hA hval
  obtain ⟨v0, vs0, d0, ds0, p0, q0, hargs, rfl, rfl, h0, r0⟩ := trodAll_cons hA
  obtain ⟨rfl, rfl, rfl⟩ := trodAll_nil r0
  obtain rfl : args = #[v0] := by cases args; simp_all
  obtain ⟨rfl, rfl⟩ := trodVars_none hV
  have lt0 : ∀ x ∈ p0, x.block < W.heap.size := by obtain ⟨m, hm⟩ := h0; exact DataW.trod_lt m _ _ _ hm
  obtain ⟨x0, y0, e0⟩ := in_play (hval 0 _ v0 rfl rfl) h0
  clear hA0 hval0
  refine (bridge (args := [.agg (playL x0)]) (ra := #[v0]) (c4 x0.1.1 x0.1.2.1 x0.1.2.2.1 x0.1.2.2.2.1 x0.1.2.2.2.2.1 x0.1.2.2.2.2.2 x0.2.1 x0.2.2.1 x0.2.2.2 (fun y hy f hf => (y0 y hy f hf).2) []) rfl (by intro a ha; simp at ha; rcases ha with rfl <;> rfl) (fun i => ?_)).mono fun e W' ⟨he, bel⟩ => ?_
  · match i with
    | 0 => exact e0
    | i + 1 => exact .junk _
  · subst he
    exact ⟨_, rfl, _, _, _, [], _, [], hW', trodAll_mk1 (shut_bool Try.underlying4 _), (trodAll_cons_mk (Below.trod laidOut (by kernel_rfl) (of_decide_eq_true (by kernel_rfl)) h0 bel lt0) trodAll_mk0), rfl, bel.frame _, fun h => by cases h⟩
theorem over : Rows.tractTurnedRow.holds Try.pinned (OpenSpec.ofChange Rows.tractTurnedSpec) :=
  OpenClaim.holds_of_wide 4 Try.f4 rfl rfl rfl rfl rfl rfl rfl ⟨rfl, rfl, rfl, rfl, rfl⟩ rfl rfl rfl rfl rfl (by kernel_rfl) Try.func4 (by kernel_rfl)
    (of_decide_eq_true (by kernel_rfl)) (by unfold Func.isWrapper; first | (rw [if_pos (by decide +kernel)]; kernel_rfl) | (rw [if_neg (by decide +kernel)]; exact ⟨rfl, rfl⟩))
    (fun os started H enc _ => lifted os started H enc)
theorem tractTurned_holds : Rows.TractTurnedSaid := over
#print axioms tractTurned_holds
end Go.Proofs.Ytpielcbpfbajlaa

