/- The law TractRests of the given program returns true for any play (a shape, feeds, areas), and leaves all as it was. No condition. -/
import Derived.Test.YtpielcbpfbajlaaP6
import Derived.Test.YtpielcbpfbajlaaProg
import Derived.Test.YtpielcbpfbajlaaRows
set_option linter.unusedVariables false
set_option maxRecDepth 20000
set_option maxHeartbeats 4000000
namespace Go.Proofs.Ytpielcbpfbajlaa
open Go Go.Ab Go.Proofs
def an8 : An := { imm := [1], jn := [(2, [1, 20]), (5, [1, 3, 33]), (8, [1, 3, 5]), (11, [3, 6]), (16, [3, 6, 7, 8, 9, 10]), (17, [3, 6, 7, 8, 9, 88]), (24, [3])], lp := [(7, [1, 3, 5]), (12, [3, 6, 7]), (20, [3, 9, 11])], loud := [], ord := [] }
def vc8 (C : Cb) (a0 : V) (H : Hp) (R : List V → Hp → Prop) : Prop :=
 C.aBx true 9 a0.nod H fun (v1 : V) (H2 : Hp) =>
 Jn (fun (l3 : List V) (H4 : Hp) =>
 aCond (l3.getD 1 .junk).nod (
 C.callE 17 [] H4 fun (v6 : V) (H7 : Hp) =>
 R [v6] H7) (
 C.aFA 0 6 true (l3.getD 0 .junk).nod fun (v8 : V) =>
 C.aLd 6 true false v8.nod H4 fun (v9 : V) (H10 : Hp) =>
 C.callE 25 [v9.nod] H10 fun (v11 : V) (H12 : Hp) =>
 C.aExt 0 v11.nod.nod fun (v13 : V) =>
 C.aExt 1 v11.nod.nod fun (v14 : V) =>
 Jn (fun (l15 : List V) (H16 : Hp) =>
 aCond (l15.getD 2 .junk).nod (
 R [(B false)] H16) (
 LoopA (fun (l18 : List V) (H19 : Hp) (K20 : List V → Hp → Prop) =>
 C.aFA 6 1 false (l18.getD 0 .junk).nod fun (v21 : V) =>
 C.aLd 1 false false v21.nod H19 fun (v22 : V) (H23 : Hp) =>
 C.aLen v22.nod fun (v24 : V) =>
 C.aBin (Try.prog.underlying 3) .lss (l18.getD 2 .junk).nod.nod v24.nod fun (v25 : V) =>
 aCond v25.nod (
 Jn (fun (l26 : List V) (H27 : Hp) =>
 C.aBin (Try.prog.underlying 3) .add (l26.getD 2 .junk).nod.nod (I 1) fun (v29 : V) =>
 K20 [(l26.getD 0 .junk), (l26.getD 1 .junk), v29] H27)
 (fun (R28 : List V → Hp → Prop) =>
 C.aFA 6 1 false (l18.getD 0 .junk).nod fun (v30 : V) =>
 C.aLd 1 false false v30.nod H23 fun (v31 : V) (H32 : Hp) =>
 C.aIx 1 v31.nod (l18.getD 2 .junk).nod.nod fun (v33 : V) =>
 C.aLd 1 false false v33.nod H32 fun (v34 : V) (H35 : Hp) =>
 C.callE 26 [(l18.getD 1 .junk).nod.nod, v34.nod] H35 fun (v36 : V) (H37 : Hp) =>
 R28 [(l18.getD 0 .junk), (l18.getD 1 .junk), (l18.getD 2 .junk)] H37)) (
 Jn (fun (l38 : List V) (H39 : Hp) =>
 LoopA (fun (l41 : List V) (H42 : Hp) (K43 : List V → Hp → Prop) =>
 C.aBin (Try.prog.underlying 3) .lss (l41.getD 2 .junk).nod.nod (I 8) fun (v44 : V) =>
 aCond v44.nod (
 C.callE 27 [(l41.getD 0 .junk).nod.nod] H42 fun (v45 : V) (H46 : Hp) =>
 Jn (fun (l47 : List V) (H48 : Hp) =>
 Jn (fun (l50 : List V) (H51 : Hp) =>
 aCond (l50.getD 5 .junk).nod (
 R [(B false)] H51) (
 C.aBin (Try.prog.underlying 3) .gtr (l50.getD 3 .junk).nod.nod (I 0) fun (v53 : V) =>
 aCond v53.nod (
 C.aBin (Try.prog.underlying 3) .add (l50.getD 2 .junk).nod.nod (I 1) fun (v54 : V) =>
 K43 [(l50.getD 0 .junk), (l50.getD 1 .junk), v54] H51) (
 Jn (fun (l55 : List V) (H56 : Hp) =>
 C.callE 27 [(l55.getD 0 .junk).nod.nod] H56 fun (v58 : V) (H59 : Hp) =>
 C.aBin (Try.prog.underlying 3) .eql v58.nod (I 0) fun (v60 : V) =>
 Jv (fun (v61 : V) (H62 : Hp) =>
 R [v61] H62)
 (fun (R63 : V → Hp → Prop) =>
 aG v60.nod true (
 C.callE 17 [] H59 fun (v64 : V) (H65 : Hp) =>
 R63 v64.nod H65) (
 R63 (B false) H59)))
 (fun (R57 : List V → Hp → Prop) =>
 LoopA (fun (l66 : List V) (H67 : Hp) (K68 : List V → Hp → Prop) =>
 C.aLen (l66.getD 1 .junk).nod.nod fun (v69 : V) =>
 C.aBin (Try.prog.underlying 3) .lss (l66.getD 2 .junk).nod.nod v69.nod fun (v70 : V) =>
 aCond v70.nod (
 C.aIx 2 (l66.getD 1 .junk).nod.nod (l66.getD 2 .junk).nod.nod fun (v71 : V) =>
 C.aLd 2 true false v71.nod H67 fun (v72 : V) (H73 : Hp) =>
 C.aBd [(I 0), (I 0)] [] fun (v74 : V) =>
 C.aEqS 48 .neq v72.nod v74.nod fun (v75 : V) =>
 aCond v75.nod (
 R [(B false)] H73) (
 C.aBin (Try.prog.underlying 3) .add (l66.getD 2 .junk).nod.nod (I 1) fun (v76 : V) =>
 K68 [(l66.getD 0 .junk), (l66.getD 1 .junk), v76] H73)) (
 R57 [(l66.getD 0 .junk)] H67))
 [(l50.getD 0 .junk), (l50.getD 4 .junk), (I 0)] H51))))
 (fun (R52 : List V → Hp → Prop) =>
 C.aBin (Try.prog.underlying 27) .neq (l47.getD 5 .junk).nod.nod (I 0) fun (v77 : V) =>
 Jv (fun (v78 : V) (H79 : Hp) =>
 Jv (fun (v83 : V) (H84 : Hp) =>
 R52 [(l47.getD 0 .junk), (l47.getD 1 .junk), (l47.getD 2 .junk), (l47.getD 3 .junk), (l47.getD 4 .junk), v83] H84)
 (fun (R85 : V → Hp → Prop) =>
 aG v78.nod false (
 C.aBin (Try.prog.underlying 3) .gtr (l47.getD 3 .junk).nod.nod (I 0) fun (v86 : V) =>
 aG v86.nod true (
 C.callE 27 [(l47.getD 0 .junk).nod.nod] H79 fun (v87 : V) (H88 : Hp) =>
 C.aBin (Try.prog.underlying 3) .geq v87.nod (l47.getD 3 .junk).nod.nod fun (v89 : V) =>
 R85 v89.nod.nod H88) (
 R85 (B false) H79)) (
 UD = UD ∧
 UD = UD ∧
 UD = UD ∧
 UD = UD ∧
 R85 (B true) H79)))
 (fun (R80 : V → Hp → Prop) =>
 aG v77.nod false (
 C.aLen (l47.getD 4 .junk).nod.nod fun (v81 : V) =>
 C.aBin (Try.prog.underlying 3) .neq v81.nod (l47.getD 1 .junk).nod.nod fun (v82 : V) =>
 R80 v82.nod H48) (
 R80 (B true) H48))))
 (fun (R49 : List V → Hp → Prop) =>
 C.callE 39 [(l41.getD 0 .junk).nod.nod, (l41.getD 1 .junk).nod.nod] H46 fun (v90 : V) (H91 : Hp) =>
 C.aExt 0 v90.nod.nod fun (v92 : V) =>
 C.aExt 1 v90.nod.nod fun (v93 : V) =>
 R49 [(l41.getD 0 .junk), (l41.getD 1 .junk), (l41.getD 2 .junk), v45, v92, v93] H91)) (
 C.callE 17 [] H42 fun (v94 : V) (H95 : Hp) =>
 R [v94] H95))
 [(l38.getD 0 .junk), (l38.getD 1 .junk), (I 0)] H39)
 (fun (R40 : List V → Hp → Prop) =>
 C.aFA 0 6 true (l18.getD 0 .junk).nod fun (v96 : V) =>
 C.aFA 0 1 false v96.nod fun (v97 : V) =>
 C.aLd 1 false false v97.nod H23 fun (v98 : V) (H99 : Hp) =>
 C.aLen v98.nod fun (v100 : V) =>
 C.aFA 0 6 true (l18.getD 0 .junk).nod fun (v101 : V) =>
 C.aFA 1 1 false v101.nod fun (v102 : V) =>
 C.aLd 1 false false v102.nod H99 fun (v103 : V) (H104 : Hp) =>
 C.aLen v103.nod fun (v105 : V) =>
 C.aBin (Try.prog.underlying 3) .add v100.nod v105.nod fun (v106 : V) =>
 C.aBin (Try.prog.underlying 3) .mul (I 2) v106.nod fun (v107 : V) =>
 C.aBin (Try.prog.underlying 3) .add v107.nod (I 2) fun (v108 : V) =>
 R40 [(l18.getD 1 .junk), v108] H104)))
 [(l15.getD 0 .junk), (l15.getD 1 .junk), (I 0)] H16))
 (fun (R17 : List V → Hp → Prop) =>
 C.aBin (Try.prog.underlying 27) .neq v14.nod.nod (I 0) fun (v109 : V) =>
 Jv (fun (v110 : V) (H111 : Hp) =>
 R17 [(l3.getD 0 .junk), v13, v110] H111)
 (fun (R112 : V → Hp → Prop) =>
 aG v109.nod false (
 C.aNilP (Try.prog.underlying 41) .eql v13.nod.nod fun (v113 : V) =>
 R112 v113.nod H12) (
 R112 (B true) H12)))))
 (fun (R5 : List V → Hp → Prop) =>
 C.aLd 9 true false v1.nod H2 fun (v114 : V) (H115 : Hp) =>
 C.callE 24 [v114.nod] H115 fun (v116 : V) (H117 : Hp) =>
 C.aUn .not v116.nod fun (v118 : V) =>
 Jv (fun (v119 : V) (H120 : Hp) =>
 R5 [v1, v119] H120)
 (fun (R121 : V → Hp → Prop) =>
 aG v118.nod false (
 C.aFA 0 6 true v1.nod fun (v122 : V) =>
 C.aLd 6 true false v122.nod H117 fun (v123 : V) (H124 : Hp) =>
 C.callE 19 [v123.nod] H124 fun (v125 : V) (H126 : Hp) =>
 C.aUn .not v125.nod fun (v127 : V) =>
 R121 v127.nod H126) (
 R121 (B true) H117)))
theorem wf8 : (Nat.ble 1 Try.f8.ntmps && wfC an8 Try.f8.ntmps (Try.f8.body.getD .skip)) = true := by kernel_rfl
theorem tie8 (C : Cb) (a0 : V) (H : Hp) (R : List V → Hp → Prop) : wpG Try.prog C an8 (Try.f8.body.getD .skip) (argF [a0]) H (retG Try.prog C Try.f8 R) (fun _ _ _ => False) (retG Try.prog C Try.f8 R) = vc8 C a0 H R := by kernel_rfl
theorem mk8 (a0 : V) {H : Hp} {v : V} {H1 : Hp} (hd : v.Nd) (hn : H.length ≤ H1.length) (hb : H1 = H ∨ ∀ (b : Nat) (blk : Blk), H1[b]? = some blk → H[b]? = some blk ∨ BelB H1.length blk) (h : vc8 (real Try.prog) a0 H (retF v H1)) : Ret Try.prog 8 [a0] H v H1 :=
  ret_mk (an := an8) hm Try.call8 Try.func8 rfl wf8 hd hn hb (Eq.mpr (tie8 (real Try.prog) a0 H (retF v H1)) h)
theorem mkE8 (a0 : V) {H : Hp} {Q : V → Hp → Prop} (h : vc8 (real Try.prog) a0 H (retW Q)) : RetE Try.prog 8 [a0] H Q :=
  retE_mk (an := an8) hm Try.call8 Try.func8 rfl wf8 (Eq.mpr (tie8 (real Try.prog) a0 H (retW Q)) h)
theorem mko8 (a0 : V) {H : Hp} {xs : List V} {H1 : Hp} (hn : H.length ≤ H1.length) (hb : H1 = H ∨ ∀ (b : Nat) (blk : Blk), H1[b]? = some blk → H[b]? = some blk ∨ BelB H1.length blk) (h : vc8 (real Try.prog) a0 H (retO xs H1)) : Ret Try.prog 8 [a0] H (.arr xs .own) H1 :=
  ret_mko (an := an8) (t := 2) hm Try.call8 Try.func8 rfl wf8 rfl hn hb (Eq.mpr (tie8 (real Try.prog) a0 H (retO xs H1)) h)
end Go.Proofs.Ytpielcbpfbajlaa


set_option linter.unusedVariables false
set_option linter.unusedSimpArgs false
set_option linter.unnecessarySimpa false
set_option maxRecDepth 20000
set_option maxHeartbeats 2000000
namespace Go.Proofs.Ytpielcbpfbajlaa
open Go Go.Ab Go.Proofs
attribute [local congr] g_bin g_nilS g_nilP g_un g_ext g_bx g_fa g_ld g_st g_ix g_ixA g_slc g_mk g_bs g_bd g_nc g_cv g_len g_lenT g_app g_appB g_cpy g_mm g_call g_callG g_calm g_calmG g_range g_res g_pick g_cond g_loop g_Jv g_eqS g_eqP g_fd g_ixT g_ta g_lkp g_upd g_mkM g_appS g_inv g_callE g_callEG g_invE g_zr
theorem c8 (A D : List Int) (j g l n : Int) (Fd : List (List (Int × Int))) (Ar Br : List (List Int)) (H : Hp) : Ret Try.prog 8 [plA A D j g l n Fd Ar Br] H (B true) H := by
  refine mk8 _ rfl (Nat.le_refl _) (.inl rfl) ?_
  simp only [vc8, real]
  repeat (first | (with_reducible first | refine jn_go ?_ | refine ud_go ?_ | refine tr_go ?_ | (refine Hd.go ?_; intro K Q hK hQ; simp only [nod_agg, List.map_cons, nodL_ints, nd_no, nodL_imm, nodL_arr, nodL_lists, List.map_nil, e_bxI, okE_agg, lv_cons, List.length_nil, Nat.zero_add, Nat.reduceAdd, all_c, ck_ints, ck_I, ck_arr, ck_lists, all_n, Bool.and_self, and_true, true_and, nod_cptr, e_ldcA]; subst hK hQ) | refine rn_go ?_ | refine rv_go ?_ | refine jv_go ?_) | refine sd ?_)
  refine call_of (c24 A D j g l n Fd Ar Br _) ?_
  repeat (first | (with_reducible first | refine jn_go ?_ | refine ud_go ?_ | refine tr_go ?_ | (refine Hd.go ?_; intro K Q hK hQ; simp only [nod_imm, e_not, nod_cptr, e_facA, Nat.zero_add, lv_cons, List.length_nil, Nat.reduceAdd, Nat.reduceLeDiff, dr_0, tk_s, tk_0, e_ldcA, nod_agg, List.map_cons, nodL_ints, nd_no, nodL_imm, List.map_nil, true_and, e_gF]; subst hK hQ) | refine rn_go ?_ | refine rv_go ?_ | refine jv_go ?_) | refine sd ?_)
  by_cases hf : fits A D Fd Ar Br = true
  · rw [hf]
    repeat (first | (with_reducible first | refine jn_go ?_ | refine ud_go ?_ | refine tr_go ?_ | (refine Hd.go ?_; intro K Q hK hQ; simp only [Bool.not_true, cond_false]; subst hK hQ) | refine rn_go ?_ | refine rv_go ?_ | refine jv_go ?_) | refine sd ?_)
    have hf' := fits_iff.1 hf
    refine call_of (c19 A D j g l n _ ⟨by omega, by omega⟩) ?_
    by_cases hS : ShOk A D j g l n
    · rw [decide_eq_true hS]
      repeat (first | (with_reducible first | refine jn_go ?_ | refine ud_go ?_ | refine tr_go ?_ | (refine Hd.go ?_; intro K Q hK hQ; simp only [nod_imm, e_not, Bool.not_true, List.getD_cons_succ, List.getD_cons_zero, e_cond, Bool.false_eq_true, if_false, nod_cptr, e_facA, Nat.zero_add, lv_cons, List.length_nil, Nat.reduceAdd, Nat.reduceLeDiff, dr_0, tk_s, tk_0, true_and, e_ldcA, nod_agg, List.map_cons, nodL_ints, nd_no, nodL_imm, List.map_nil]; subst hK hQ) | refine rn_go ?_ | refine rv_go ?_ | refine jv_go ?_) | refine sd ?_)
      refine callE_of (c25 A D j g l n _ ⟨by omega, by omega⟩) ?_
      intro v H1 hq
      rw [if_pos hS] at hq
      obtain ⟨b, bA, bD, bw, rfl, hb, hT, hF⟩ := hq
      repeat (first | (with_reducible first | refine jn_go ?_ | refine ud_go ?_ | refine tr_go ?_ | (refine Hd.go ?_; intro K Q hK hQ; simp only [nod_tup, List.map_cons, nod2_ptr, nod2_imm, List.map_nil, e_x20, e_x21, nod_imm, Try.underlying27, e_neq, decide_true, Bool.not_true, nod_ptr, Try.underlying41, e_npeP, e_gF, cond_false, j_one, List.getD_cons_zero, List.getD_cons_succ, e_cond, Bool.false_eq_true, if_false]; subst hK hQ) | refine rn_go ?_ | refine rv_go ?_ | refine jv_go ?_) | refine sd ?_)
      generalize hS0 : TS.new A D j g l n = S0 at *
      have in0 : S0.In 0 := by rw [← hS0]; exact TS.in_new hS
      have st0 : S0.st = 0 := by rw [← hS0]; rfl
      have eA : S0.A = A := by rw [← hS0]; rfl
      have eD : S0.D = D := by rw [← hS0]; rfl
      have rok : ∀ i, i ≤ Fd.length → (S0.run (Fd.take i)).In 30000 ∧ 0 ≤ (S0.run (Fd.take i)).st ∧ (S0.run (Fd.take i)).st ≤ 60 ∧ (S0.run (Fd.take i)).A = A ∧ (S0.run (Fd.take i)).D = D := fun i hi => by
        have hl : (Fd.take i).length = i := by rw [List.length_take]; omega
        have q := TS.run_ok in0 (by omega) (Fd.take i) (by omega)
        exact ⟨q.1.mono (by omega), q.2.1, by omega, q.2.2.2.1.trans eA, q.2.2.2.2.trans eD⟩
      refine loop_of (fun q : Nat × Hp × Nat => q.1 ≤ Fd.length ∧ TubeAt q.2.1 b bA bD q.2.2 (S0.run (Fd.take q.1)) ∧ Fr0 H q.2.1)
        (fun q => [.cptr (plA A D j g l n Fd Ar Br), .ptr b 0, I q.1]) (fun q => q.2.1) (fun q => Fd.length - q.1) (0, H1, bw) ⟨Nat.zero_le _, hT, hF⟩ rfl rfl ?_
      rintro ⟨i, G, w⟩ ⟨hi, t1, hG⟩
      dsimp only at hi t1 hG
      obtain ⟨r1, r2, r3, r4, r5⟩ := rok i hi
      repeat (first | (with_reducible first | refine jn_go ?_ | refine ud_go ?_ | refine tr_go ?_ | (refine Hd.go ?_; intro K Q hK hQ; simp only [List.getD_cons_zero, nod_cptr, e_fac, Nat.reduceAdd, lv_cons, List.length_nil, Nat.zero_add, Nat.reduceLeDiff, List.getD_cons_succ, true_and, e_ldcV, nod_arr, nd_no, e_lenA, List.length_map, nod_imm, Try.underlying3, e_lss, e_cond, decide_eq_true_eq]; subst hK hQ) | refine rn_go ?_ | refine rv_go ?_ | refine jv_go ?_) | refine sd ?_)
      by_cases hlt : i < Fd.length
      · have d : (i : Int) < Fd.length := by omega
        have hy := hf'.2.2.2.2.1 i hlt
        have eT1 := TS.run_take S0 Fd hlt
        repeat (first | (with_reducible first | refine jn_go ?_ | refine ud_go ?_ | refine tr_go ?_ | (refine Hd.go ?_; intro K Q hK hQ; simp only [d, if_true, List.getD_cons_zero, nod_cptr, e_fac, Nat.reduceAdd, lv_cons, List.length_nil, Nat.zero_add, Nat.reduceLeDiff, List.getD_cons_succ, true_and, e_ldcV, nod_arr, nd_no, nod_imm, ixF, Int.toNat_natCast, nod_ptr]; subst hK hQ) | refine rn_go ?_ | refine rv_go ?_ | refine jv_go ?_) | refine sd ?_)
        refine cStep (f := .no) t1 r1 (by omega) r2 (by omega) (by omega) (.inl rfl) ?_
        intro G2 w1 hw1 u1 f1
        repeat (first | (with_reducible first | refine jn_go ?_ | refine ud_go ?_ | refine tr_go ?_ | (refine Hd.go ?_; intro K Q hK hQ; simp only [List.getD_cons_zero, List.getD_cons_succ, nod_imm, Try.underlying3, e_add]; subst hK hQ) | refine rn_go ?_ | refine rv_go ?_ | refine jv_go ?_) | refine sd ?_)
        refine ⟨(i + 1, G2, w1), ⟨by show i + 1 ≤ Fd.length; omega, ?_, hG.step f1 hb.1⟩, rfl, rfl, by show Fd.length - (i + 1) < Fd.length - i; omega⟩
        show TubeAt G2 b bA bD w1 (S0.run (Fd.take (i + 1)))
        rw [eT1]; exact u1
      · have d : ¬ (i : Int) < Fd.length := by omega
        repeat (first | (with_reducible first | refine jn_go ?_ | refine ud_go ?_ | refine tr_go ?_ | (refine Hd.go ?_; intro K Q hK hQ; simp only [d, if_false, List.getD_cons_zero, nod_cptr, e_facA, Nat.zero_add, lv_cons, List.length_nil, Nat.reduceAdd, Nat.reduceLeDiff, dr_0, tk_s, tk_0, true_and, e_fac, e_ldci, nod_ints, nd_no, e_len, List.getD_cons_succ, nod_imm, Try.underlying3, e_add, e_mul]; subst hK hQ) | refine rn_go ?_ | refine rv_go ?_ | refine jv_go ?_) | refine sd ?_)
        generalize S0.run (Fd.take i) = S1 at *
        have hA2 := hS.a2
        have hB2 := hS.b2
        refine loop_of (fun q : Nat × Hp × Nat × TS => q.1 ≤ 8 ∧ TubeAt q.2.1 b bA bD q.2.2.1 q.2.2.2 ∧ Fr0 H q.2.1 ∧ q.2.2.2.In 30000 ∧ 0 ≤ q.2.2.2.st ∧ q.2.2.2.st ≤ 60 + 98 * q.1 ∧ q.2.2.2.A = A ∧ q.2.2.2.D = D)
          (fun q => [.ptr b 0, I (2 * (A.length + D.length) + 2), I q.1]) (fun q => q.2.1) (fun q => 8 - q.1) (0, G, w, S1) ⟨Nat.zero_le _, t1, hG, r1, r2, by show S1.st ≤ _; omega, r4, r5⟩ rfl rfl ?_
        rintro ⟨k, G2, w2, S⟩ ⟨hk, t2, hG2, p1, p2, p3, p4, p5⟩
        dsimp only at hk t2 hG2 p1 p2 p3 p4 p5
        repeat (first | (with_reducible first | refine jn_go ?_ | refine ud_go ?_ | refine tr_go ?_ | (refine Hd.go ?_; intro K Q hK hQ; simp only [List.getD_cons_succ, List.getD_cons_zero, nod_imm, Try.underlying3, e_lss, e_cond, decide_eq_true_eq]; subst hK hQ) | refine rn_go ?_ | refine rv_go ?_ | refine jv_go ?_) | refine sd ?_)
        by_cases hkt : k < 8
        · have d : (k : Int) < 8 := by omega
          have eL : S.en ≤ 4000000000000000000 := Int.le_trans p1.en (by decide)
          have eNN := TS.en_nn p1.sh
          have hNN : S.N = A.length + D.length := by unfold TS.N; rw [p4, p5]
          repeat (first | (with_reducible first | refine jn_go ?_ | refine ud_go ?_ | refine tr_go ?_ | (refine Hd.go ?_; intro K Q hK hQ; simp only [d, if_true, List.getD_cons_zero, nod_ptr]; subst hK hQ) | refine rn_go ?_ | refine rv_go ?_ | refine jv_go ?_) | refine sd ?_)
          refine call_of (c27 b bA bD w2 S _ t2 (p1.ok (by omega)) eL) ?_
          repeat (first | (with_reducible first | refine jn_go ?_ | refine ud_go ?_ | refine tr_go ?_ | (refine Hd.go ?_; intro K Q hK hQ; simp only [List.getD_cons_zero, nod_ptr, List.getD_cons_succ, nod_imm]; subst hK hQ) | refine rn_go ?_ | refine rv_go ?_ | refine jv_go ?_) | refine sd ?_)
          refine cRest t2 p1 (by decide) p2 (by omega) (by omega) ?_
          intro f G3 w3 hfd _ t3 hF3
          have eT : (2 * ((A.length : Int) + D.length) + 2).toNat = 2 * S.N + 2 := by omega
          rw [eT] at t3 ⊢
          have hlo : ((S.outs (2 * S.N + 2)).length : Int) = 2 * ((A.length : Int) + D.length) + 2 := by simp [TS.outs]; omega
          repeat (first | (with_reducible first | refine jn_go ?_ | refine ud_go ?_ | refine tr_go ?_ | (refine Hd.go ?_; intro K Q hK hQ; simp only [nod_tup, List.map_cons, nod2_arr, hfd, nod2_imm, List.map_nil, e_x20, e_x21, List.getD_cons_zero, List.getD_cons_succ, nod_imm, Try.underlying27, e_neq, decide_true, Bool.not_true, nod_arr, e_lenA, List.length_map, hlo, Try.underlying3, e_gF, cond_false, j_one, nod_ptr, nod_nod, e_gtr, e_gT, true_and]; subst hK hQ) | refine rn_go ?_ | refine rv_go ?_ | refine jv_go ?_) | refine sd ?_)
          have e27 := fun h => c27 b bA bD w3 (S.stepN (2 * S.N + 2)) G3 t3 ((p1.stepN (by decide) _).ok (by decide)) h
          have hfr : Fr0 H G3 := hG2.step hF3 hb.1
          by_cases hpos : 0 < S.en
          · have hdec := TS.rest p1 (by decide) hpos
            have db : decide (0 < S.en) = true := decide_eq_true hpos
            have d2 : ¬ S.en ≤ (S.stepN (2 * S.N + 2)).en := by omega
            repeat (first | (with_reducible first | refine jn_go ?_ | refine ud_go ?_ | refine tr_go ?_ | (refine Hd.go ?_; intro K Q hK hQ; simp only [db, cond_true]; subst hK hQ) | refine rn_go ?_ | refine rv_go ?_ | refine jv_go ?_) | refine sd ?_)
            refine call_of (e27 (by omega)) ?_
            repeat (first | (with_reducible first | refine jn_go ?_ | refine ud_go ?_ | refine tr_go ?_ | (refine Hd.go ?_; intro K Q hK hQ; simp only [nod_imm, e_geq, d2, decide_false, List.getD_cons_zero, List.getD_cons_succ, e_cond, Bool.false_eq_true, if_false, Try.underlying3, e_gtr, hpos, decide_true, if_true, e_add]; subst hK hQ) | refine rn_go ?_ | refine rv_go ?_ | refine jv_go ?_) | refine sd ?_)
            have al := TS.stepN_all S (2 * S.N + 2)
            have ast := TS.stepN_st S (2 * S.N + 2)
            refine ⟨(k + 1, G3, w3, S.stepN (2 * S.N + 2)), ⟨by show k + 1 ≤ 8; omega, t3, hfr, p1.stepN (by decide) _, ?_, ?_, al.1.trans p4, al.2.1.trans p5⟩, rfl, rfl, by show 8 - (k + 1) < 8 - k; omega⟩
            · show 0 ≤ (S.stepN (2 * S.N + 2)).st
              rw [ast]; omega
            · show (S.stepN (2 * S.N + 2)).st ≤ 60 + 98 * ((k + 1 : Nat) : Int)
              rw [ast]; omega
          · have hst := TS.still_of_en p1 (by omega)
            have stN : ∀ k, (S.stepN k).Still := fun k => by
              induction k with
              | zero => exact hst
              | succ k ih => exact ih.step ((p1.stepN (by decide) k).ok (by decide))
            have hel : (S.outs (2 * S.N + 2)).length = 2 * S.N + 2 := by simp [TS.outs]
            have get : ∀ k, k < 2 * S.N + 2 → (S.outs (2 * S.N + 2)).getD k (0, 0) = (0, 0) := fun k hk => by
              unfold TS.outs
              rw [List.getD_eq_getElem?_getD, List.getElem?_map, List.getElem?_range hk]
              exact (stN k).hear
            generalize S.outs (2 * S.N + 2) = L at *
            have db : decide (0 < S.en) = false := decide_eq_false hpos
            repeat (first | (with_reducible first | refine jn_go ?_ | refine ud_go ?_ | refine tr_go ?_ | (refine Hd.go ?_; intro K Q hK hQ; simp only [hpos, decide_false, cond_false, List.getD_cons_zero, List.getD_cons_succ, nod_imm, e_cond, Bool.false_eq_true, if_false, Try.underlying3, e_gtr]; subst hK hQ) | refine rn_go ?_ | refine rv_go ?_ | refine jv_go ?_) | refine sd ?_)
            refine loop_of (fun m : Nat => m ≤ L.length) (fun m => [.ptr b 0, .arr (L.map fdV) f, I m]) (fun _ => G3) (fun m => L.length - m) 0 (Nat.zero_le _) rfl rfl ?_
            intro m hm
            repeat (first | (with_reducible first | refine jn_go ?_ | refine ud_go ?_ | refine tr_go ?_ | (refine Hd.go ?_; intro K Q hK hQ; simp only [List.getD_cons_succ, List.getD_cons_zero, nod_arr, hfd, e_lenA, List.length_map, nod_imm, Try.underlying3, e_lss, e_cond, decide_eq_true_eq]; subst hK hQ) | refine rn_go ?_ | refine rv_go ?_ | refine jv_go ?_) | refine sd ?_)
            by_cases hml : m < L.length
            · have d : (m : Int) < L.length := by omega
              have gm := get m (by omega)
              repeat (first | (with_reducible first | refine jn_go ?_ | refine ud_go ?_ | refine tr_go ?_ | (refine Hd.go ?_; intro K Q hK hQ; simp only [d, if_true, List.getD_cons_succ, List.getD_cons_zero, nod_arr, hfd, nod_imm, ixV, Int.toNat_natCast, gm, true_and, nod_cptr, e_ldcA, lv_cons, List.length_nil, Nat.zero_add, Nat.reduceAdd, e_bd0, nod_agg, List.map_cons, nodL_imm, List.map_nil, ne48, decide_true, Bool.and_self, Bool.not_true, e_cond, Bool.false_eq_true, if_false, Try.underlying3, e_add]; subst hK hQ) | refine rn_go ?_ | refine rv_go ?_ | refine jv_go ?_) | refine sd ?_)
              exact ⟨m + 1, by omega, rfl, rfl, by omega⟩
            · have d : ¬ (m : Int) < L.length := by omega
              repeat (first | (with_reducible first | refine jn_go ?_ | refine ud_go ?_ | refine tr_go ?_ | (refine Hd.go ?_; intro K Q hK hQ; simp only [d, if_false, List.getD_cons_zero, nod_ptr]; subst hK hQ) | refine rn_go ?_ | refine rv_go ?_ | refine jv_go ?_) | refine sd ?_)
              have z := (stN (2 * S.N + 2)).en
              refine call_of (e27 (by rw [z]; decide)) ?_
              rw [z]
              repeat (first | (with_reducible first | refine jn_go ?_ | refine ud_go ?_ | refine tr_go ?_ | (refine Hd.go ?_; intro K Q hK hQ; simp only [nod_imm, Try.underlying3, e_eql, decide_true, e_gT, cond_true]; subst hK hQ) | refine rn_go ?_ | refine rv_go ?_ | refine jv_go ?_) | refine sd ?_)
              refine call_of (c17 _) ?_
              with_reducible first | refine rv_go ?_ | refine rn_go ?_ | skip
              exact end1F hfr
        · have d : ¬ (k : Int) < 8 := by omega
          repeat (first | (with_reducible first | refine jn_go ?_ | refine ud_go ?_ | refine tr_go ?_ | (refine Hd.go ?_; intro K Q hK hQ; simp only [d, if_false]; subst hK hQ) | refine rn_go ?_ | refine rv_go ?_ | refine jv_go ?_) | refine sd ?_)
          refine call_of (c17 _) ?_
          with_reducible first | refine rv_go ?_ | refine rn_go ?_ | skip
          exact end1F hG2
    · rw [decide_eq_false hS]
      repeat (first | (with_reducible first | refine jn_go ?_ | refine ud_go ?_ | refine tr_go ?_ | (refine Hd.go ?_; intro K Q hK hQ; simp only [nod_imm, e_not, Bool.not_false, List.getD_cons_succ, List.getD_cons_zero, e_cond, if_true]; subst hK hQ) | refine rn_go ?_ | refine rv_go ?_ | refine jv_go ?_) | refine sd ?_)
      refine call_of (c17 _) ?_
      with_reducible first | refine rv_go ?_ | refine rn_go ?_ | skip
      first | exact end1 (fzI _) | exact end1A (fzI _)
  · rw [Bool.eq_false_iff.2 hf]
    repeat (first | (with_reducible first | refine jn_go ?_ | refine ud_go ?_ | refine tr_go ?_ | (refine Hd.go ?_; intro K Q hK hQ; simp only [Bool.not_false, cond_true, List.getD_cons_succ, List.getD_cons_zero, nod_imm, e_cond, if_true]; subst hK hQ) | refine rn_go ?_ | refine rv_go ?_ | refine jv_go ?_) | refine sd ?_)
    refine call_of (c17 _) ?_
    with_reducible first | refine rv_go ?_ | refine rn_go ?_ | skip
    first | exact end1 (fzI _) | exact end1A (fzI _)
end Go.Proofs.Ytpielcbpfbajlaa


set_option linter.unusedVariables false
set_option linter.unusedSimpArgs false
set_option linter.unnecessarySimpa false
set_option maxRecDepth 20000
set_option maxHeartbeats 2000000
namespace Go.Proofs.Ytpielcbpfbajlaa
open Go Go.Ab Go.Proofs
attribute [local congr] g_bin g_nilS g_nilP g_un g_ext g_bx g_fa g_ld g_st g_ix g_ixA g_slc g_mk g_bs g_bd g_nc g_cv g_len g_lenT g_app g_appB g_cpy g_mm g_call g_callG g_calm g_calmG g_range g_res g_pick g_cond g_loop g_Jv g_eqS g_eqP g_fd g_ixT g_ta g_lkp g_upd g_mkM g_appS g_inv g_callE g_callEG g_invE g_zr
open Go.ChangeShapes Go.WideShapes Go.ChangeAt Go.RowKit
theorem own : ownKnob Try.prog.godebug = none := by kernel_rfl
theorem laidOut : laidOutB Try.prog = true := by kernel_rfl
set_option maxRecDepth 100000 in
theorem lifted (os : Os) (started : os.Started) (H : Type) (enc : TypeId × Value → H) :
    ReturnsInHanded {} Try.checked os 8 .any (Rows.tractRestsSpec.pre6 enc Try.prog Try.f8 Rows.tractRestsRow.domain false) (Rows.tractRestsSpec.post enc Try.prog Try.f8 false true false false) := by
  refine returnsInHanded_of_change (C := Try.checked) own started (by kernel_rfl) Try.func8
    (ChangeSpec.witness6 (enc := enc) (C := Try.checked) false ⟨#[], #[.agg #[.slice none 0 0, .slice none 0 0, .int .i64 0, .int .i64 0, .int .i64 0, .int .i64 0, .slice none 0 0, .slice none 0 0, .slice none 0 0]], []⟩ 8 (by kernel_rfl) (by kernel_rfl) (by kernel_rfl) (by kernel_rfl)) ?_
  intro W base args ds gs before hval0 hW hcnd _
  have hval : ∀ (j : Nat) t v, Try.f8.params[j]? = some t → args[j]? = some v → Value.okWide Try.prog W .any base t v := hval0
  have hW' := hW
  obtain ⟨p, q, hA0, hV, rfl, hfz, hnd⟩ := hW
  have hA : DataW.TrodAll enc Try.prog W 0 (fun _ => true) true Try.f8.params.toList args.toList ds p := hA0
  rw [Try.params8] at hA hval
  obtain ⟨v0, vs0, d0, ds0, p0, q0, hargs, rfl, rfl, h0, r0⟩ := trodAll_cons hA
  obtain ⟨rfl, rfl, rfl⟩ := trodAll_nil r0
  obtain rfl : args = #[v0] := by cases args; simp_all
  obtain ⟨rfl, rfl⟩ := trodVars_none hV
  have lt0 : ∀ x ∈ p0, x.block < W.heap.size := by obtain ⟨m, hm⟩ := h0; exact DataW.trod_lt m _ _ _ hm
  obtain ⟨x0, y0, e0⟩ := in_play (hval 0 _ v0 rfl rfl) h0
  clear hA0 hval0
  refine (bridge (args := [.agg (playL x0)]) (ra := #[v0]) (c8 x0.1.1 x0.1.2.1 x0.1.2.2.1 x0.1.2.2.2.1 x0.1.2.2.2.2.1 x0.1.2.2.2.2.2 x0.2.1 x0.2.2.1 x0.2.2.2  []) rfl (by intro a ha; simp at ha; rcases ha with rfl <;> rfl) (fun i => ?_)).mono fun e W' ⟨he, bel⟩ => ?_
  · match i with
    | 0 => exact e0
    | i + 1 => exact .junk _
  · subst he
    exact ⟨_, rfl, _, _, _, [], _, [], hW', trodAll_mk1 (shut_bool Try.underlying4 _), (trodAll_cons_mk (Below.trod laidOut (by kernel_rfl) (of_decide_eq_true (by kernel_rfl)) h0 bel lt0) trodAll_mk0), rfl, bel.frame _, fun h => by cases h⟩
theorem over : Rows.tractRestsRow.holds Try.pinned (OpenSpec.ofChange Rows.tractRestsSpec) :=
  OpenClaim.holds_of_wide 8 Try.f8 rfl rfl rfl rfl rfl rfl rfl ⟨rfl, rfl, rfl, rfl, rfl⟩ rfl rfl rfl rfl rfl (by kernel_rfl) Try.func8 (by kernel_rfl)
    (of_decide_eq_true (by kernel_rfl)) (by unfold Func.isWrapper; first | (rw [if_pos (by decide +kernel)]; kernel_rfl) | (rw [if_neg (by decide +kernel)]; exact ⟨rfl, rfl⟩))
    (fun os started H enc _ => lifted os started H enc)
theorem tractRests_holds : Rows.TractRestsSaid := over
#print axioms tractRests_holds
end Go.Proofs.Ytpielcbpfbajlaa

