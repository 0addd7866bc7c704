/- The constraint that decides between any two lists of breaks, or the error: true for every input. -/
import Derived.Test.YtgicpobploinhaaP6
import Derived.Test.YtgicpobploinhaaProg
import Derived.Test.YtgicpobploinhaaRows
set_option linter.unusedVariables false
set_option maxRecDepth 20000
set_option maxHeartbeats 4000000
namespace Go.Proofs.Ytgicpobploinhaa
open Go Go.Ab Go.Proofs
def an12 : An := { imm := [], jn := [(2, [0, 1, 2, 3, 35]), (4, [0, 1, 2, 3, 9, 10, 11]), (5, [0, 1, 2, 3, 9, 10, 11, 12, 13, 14]), (6, [0, 1, 2, 3, 9, 10, 11, 12, 13, 14, 65]), (7, [0, 1, 2, 3, 9, 10, 11, 12, 13, 14]), (10, [9, 10, 11, 12, 13, 14, 15, 16, 17]), (12, [9, 10, 11, 12, 13, 14, 15, 16, 17, 105])], lp := [(9, [9, 10, 11, 12, 13, 14, 15, 16, 17])], loud := [142], ord := [] }
def vc12 (C : Cb) (a0 a1 a2 a3 : V) (H : Hp) (R : List V → Hp → Prop) : Prop :=
 Jn (fun l1 H2 =>
 aCond (l1.getD 4 .junk).nod (
 C.callE 15 [] H2 fun v4 H5 =>
 R [v4] H5) (
 Jn (fun l6 H7 =>
 Jn (fun l9 H10 =>
 Jn (fun l12 H13 =>
 C.callE 41 [(l12.getD 0 .junk).nod.nod, (l12.getD 1 .junk).nod.nod, (l12.getD 2 .junk).nod.nod] H13 fun v15 H16 =>
 C.callE 41 [(l12.getD 0 .junk).nod.nod, (l12.getD 1 .junk).nod.nod, (l12.getD 3 .junk).nod.nod] H16 fun v17 H18 =>
 LoopA (fun l19 H20 K21 =>
 C.aLen (l19.getD 6 .junk).nod.nod fun v22 =>
 C.aBin (Try.prog.underlying 3) .lss (l19.getD 8 .junk).nod.nod v22.nod fun v23 =>
 aCond v23.nod (
 Jn (fun l24 H25 =>
 C.aBin (Try.prog.underlying 3) .add (l24.getD 8 .junk).nod.nod (I 1) fun v27 =>
 K21 [(l24.getD 0 .junk), (l24.getD 1 .junk), (l24.getD 2 .junk), (l24.getD 3 .junk), (l24.getD 4 .junk), (l24.getD 5 .junk), (l24.getD 6 .junk), (l24.getD 7 .junk), v27] H25)
 (fun R26 =>
 Jn (fun l28 H29 =>
 aCond (l28.getD 9 .junk).nod (
 C.aBin (Try.prog.underlying 28) .eql (l28.getD 2 .junk).nod.nod (I 0) fun v31 =>
 Jv (fun v32 H33 =>
 Jv (fun v36 H37 =>
 Jv (fun v40 H41 =>
 Jv (fun v51 H52 =>
 Jv (fun v55 H56 =>
 Jv (fun v60 H61 =>
 R [v60] H61)
 (fun R62 =>
 aG v55.nod true (
 C.call 15 [] H56 fun v63 H64 =>
 R62 v63.nod H64) (
 R62 (B false) H56)))
 (fun R57 =>
 aG v51.nod true (
 C.aUn .neg (l28.getD 1 .junk).nod.nod fun v58 =>
 C.aBin (Try.prog.underlying 3) .eql (l28.getD 4 .junk).nod.nod v58.nod fun v59 =>
 R57 v59.nod H52) (
 R57 (B false) H52)))
 (fun R53 =>
 aG v40.nod true (
 C.aBin (Try.prog.underlying 3) .eql (l28.getD 3 .junk).nod.nod (l28.getD 8 .junk).nod.nod fun v54 =>
 R53 v54.nod H41) (
 R53 (B false) H41)))
 (fun R42 =>
 aG v36.nod true (
 C.aIx 1 (l28.getD 7 .junk).nod.nod (l28.getD 8 .junk).nod.nod fun v43 =>
 C.aLd 1 false false v43.nod H37 fun v44 H45 =>
 C.aIx 1 (l28.getD 6 .junk).nod.nod (l28.getD 8 .junk).nod.nod fun v46 =>
 C.aLd 1 false false v46.nod H45 fun v47 H48 =>
 C.aBin (Try.prog.underlying 3) .sub v44.nod v47.nod fun v49 =>
 C.aBin (Try.prog.underlying 3) .eql (l28.getD 1 .junk).nod.nod v49.nod fun v50 =>
 R42 v50.nod H48) (
 R42 (B false) H37)))
 (fun R38 =>
 aG v32.nod true (
 C.aBin (Try.prog.underlying 3) .eql (l28.getD 0 .junk).nod.nod (l28.getD 8 .junk).nod.nod fun v39 =>
 R38 v39.nod H33) (
 R38 (B false) H33)))
 (fun R34 =>
 aG v31.nod true (
 C.aBin (Try.prog.underlying 28) .eql (l28.getD 5 .junk).nod.nod (I 0) fun v35 =>
 R34 v35.nod H29) (
 R34 (B false) H29))) (
 R26 [(l28.getD 0 .junk), (l28.getD 1 .junk), (l28.getD 2 .junk), (l28.getD 3 .junk), (l28.getD 4 .junk), (l28.getD 5 .junk), (l28.getD 6 .junk), (l28.getD 7 .junk), (l28.getD 8 .junk)] H29))
 (fun R30 =>
 C.aIx 1 (l19.getD 6 .junk).nod.nod (l19.getD 8 .junk).nod.nod fun v65 =>
 C.aLd 1 false false v65.nod H20 fun v66 H67 =>
 C.aIx 1 (l19.getD 7 .junk).nod.nod (l19.getD 8 .junk).nod.nod fun v68 =>
 C.aLd 1 false false v68.nod H67 fun v69 H70 =>
 C.aBin (Try.prog.underlying 3) .neq v66.nod v69.nod fun v71 =>
 R30 [(l19.getD 0 .junk), (l19.getD 1 .junk), (l19.getD 2 .junk), (l19.getD 3 .junk), (l19.getD 4 .junk), (l19.getD 5 .junk), (l19.getD 6 .junk), (l19.getD 7 .junk), (l19.getD 8 .junk), v71] H70))) (
 C.aBin (Try.prog.underlying 28) .eql (l19.getD 2 .junk).nod.nod (I 0) fun v72 =>
 Jv (fun v73 H74 =>
 Jv (fun v77 H78 =>
 Jv (fun v81 H82 =>
 Jv (fun v85 H86 =>
 Jv (fun v89 H90 =>
 Jv (fun v93 H94 =>
 R [v93] H94)
 (fun R95 =>
 aG v89.nod true (
 C.callE 15 [] H90 fun v96 H97 =>
 R95 v96.nod H97) (
 R95 (B false) H90)))
 (fun R91 =>
 aG v85.nod true (
 C.aBin (Try.prog.underlying 3) .eql (l19.getD 4 .junk).nod.nod (I 0) fun v92 =>
 R91 v92.nod H86) (
 R91 (B false) H86)))
 (fun R87 =>
 aG v81.nod true (
 C.aBin (Try.prog.underlying 3) .eql (l19.getD 3 .junk).nod.nod (I (-1)) fun v88 =>
 R87 v88.nod H82) (
 R87 (B false) H82)))
 (fun R83 =>
 aG v77.nod true (
 C.aBin (Try.prog.underlying 3) .eql (l19.getD 1 .junk).nod.nod (I 0) fun v84 =>
 R83 v84.nod H78) (
 R83 (B false) H78)))
 (fun R79 =>
 aG v73.nod true (
 C.aBin (Try.prog.underlying 3) .eql (l19.getD 0 .junk).nod.nod (I (-1)) fun v80 =>
 R79 v80.nod H74) (
 R79 (B false) H74)))
 (fun R75 =>
 aG v72.nod true (
 C.aBin (Try.prog.underlying 28) .eql (l19.getD 5 .junk).nod.nod (I 0) fun v76 =>
 R75 v76.nod H20) (
 R75 (B false) H20))))
 [(l12.getD 4 .junk), (l12.getD 5 .junk), (l12.getD 6 .junk), (l12.getD 7 .junk), (l12.getD 8 .junk), (l12.getD 9 .junk), v15, v17, (I 0)] H18)
 (fun R14 =>
 Jn (fun l98 H99 =>
 aCond (l98.getD 10 .junk).nod (
 C.aBin (Try.prog.underlying 28) .eql (l98.getD 6 .junk).nod.nod (I 2) fun v101 =>
 Jv (fun v102 H103 =>
 Jv (fun v106 H107 =>
 Jv (fun v110 H111 =>
 Jv (fun v114 H115 =>
 R [v114] H115)
 (fun R116 =>
 aG v110.nod true (
 C.callE 15 [] H111 fun v117 H118 =>
 R116 v117.nod H118) (
 R116 (B false) H111)))
 (fun R112 =>
 aG v106.nod true (
 C.aBin (Try.prog.underlying 3) .eql (l98.getD 5 .junk).nod.nod (I 0) fun v113 =>
 R112 v113.nod H107) (
 R112 (B false) H107)))
 (fun R108 =>
 aG v102.nod true (
 C.aBin (Try.prog.underlying 3) .eql (l98.getD 4 .junk).nod.nod (I 0) fun v109 =>
 R108 v109.nod H103) (
 R108 (B false) H103)))
 (fun R104 =>
 aG v101.nod true (
 C.aBin (Try.prog.underlying 28) .eql (l98.getD 9 .junk).nod.nod (I 2) fun v105 =>
 R104 v105.nod H99) (
 R104 (B false) H99))) (
 R14 [(l98.getD 0 .junk), (l98.getD 1 .junk), (l98.getD 2 .junk), (l98.getD 3 .junk), (l98.getD 4 .junk), (l98.getD 5 .junk), (l98.getD 6 .junk), (l98.getD 7 .junk), (l98.getD 8 .junk), (l98.getD 9 .junk)] H99))
 (fun R100 =>
 C.callE 40 [(l9.getD 0 .junk).nod.nod, (l9.getD 1 .junk).nod.nod, (l9.getD 2 .junk).nod.nod] H10 fun v119 H120 =>
 C.aUn .not v119.nod fun v121 =>
 Jv (fun v122 H123 =>
 R100 [(l9.getD 0 .junk), (l9.getD 1 .junk), (l9.getD 2 .junk), (l9.getD 3 .junk), (l9.getD 4 .junk), (l9.getD 5 .junk), (l9.getD 6 .junk), (l9.getD 7 .junk), (l9.getD 8 .junk), (l9.getD 9 .junk), v122] H123)
 (fun R124 =>
 aG v121.nod false (
 C.callE 43 [(l9.getD 0 .junk).nod.nod, (l9.getD 3 .junk).nod.nod] H120 fun v125 H126 =>
 C.aUn .not v125.nod fun v127 =>
 R124 v127.nod H126) (
 R124 (B true) H120)))))
 (fun R11 =>
 C.callE 42 [(l6.getD 0 .junk).nod.nod, (l6.getD 1 .junk).nod.nod, (l6.getD 3 .junk).nod.nod, (l6.getD 2 .junk).nod.nod] H7 fun v128 H129 =>
 C.aExt 0 v128.nod.nod fun v130 =>
 C.aExt 1 v128.nod.nod fun v131 =>
 C.aExt 2 v128.nod.nod fun v132 =>
 R11 [(l6.getD 0 .junk), (l6.getD 1 .junk), (l6.getD 2 .junk), (l6.getD 3 .junk), (l6.getD 4 .junk), (l6.getD 5 .junk), (l6.getD 6 .junk), v130, v131, v132] H129))
 (fun R8 =>
 C.callE 42 [(l1.getD 0 .junk).nod.nod, (l1.getD 1 .junk).nod.nod, (l1.getD 2 .junk).nod.nod, (l1.getD 3 .junk).nod.nod] H2 fun v133 H134 =>
 C.aExt 0 v133.nod.nod fun v135 =>
 C.aExt 1 v133.nod.nod fun v136 =>
 C.aExt 2 v133.nod.nod fun v137 =>
 R8 [(l1.getD 0 .junk), (l1.getD 1 .junk), (l1.getD 2 .junk), (l1.getD 3 .junk), v135, v136, v137] H134)))
 (fun R3 =>
 C.aLen a0.nod.nod fun v138 =>
 C.aBin (Try.prog.underlying 3) .gtr v138.nod (I 70) fun v139 =>
 Jv (fun v140 H141 =>
 Jv (fun v145 H146 =>
 Jv (fun v150 H151 =>
 R3 [a0, a1, a2, a3, v150] H151)
 (fun R152 =>
 aG v145.nod false (
 C.aLen a3.nod.nod fun v153 =>
 C.aBin (Try.prog.underlying 3) .gtr v153.nod (I 70) fun v154 =>
 R152 v154.nod H146) (
 R152 (B true) H146)))
 (fun R147 =>
 aG v140.nod false (
 C.aLen a2.nod.nod fun v148 =>
 C.aBin (Try.prog.underlying 3) .gtr v148.nod (I 70) fun v149 =>
 R147 v149.nod H141) (
 R147 (B true) H141)))
 (fun R142 =>
 aG v139.nod false (
 C.aLen a1.nod.nod fun v143 =>
 C.aBin (Try.prog.underlying 3) .gtr v143.nod (I 70) fun v144 =>
 R142 v144.nod H) (
 R142 (B true) H)))
theorem wf12 : (Nat.ble 4 Try.f12.ntmps && wfC an12 Try.f12.ntmps (Try.f12.body.getD .skip)) = true := by kernel_rfl
theorem tie12 (C : Cb) (a0 a1 a2 a3 : V) (H : Hp) (R : List V → Hp → Prop) : wpG Try.prog C an12 (Try.f12.body.getD .skip) (argF [a0, a1, a2, a3]) H (retG Try.prog C Try.f12 R) (fun _ _ _ => False) (retG Try.prog C Try.f12 R) = vc12 C a0 a1 a2 a3 H R := by kernel_rfl
theorem mk12 (a0 a1 a2 a3 : V) {H : Hp} {v : V} {H1 : Hp} (hd : v.Nd) (hn : H.length ≤ H1.length) (hb : H1 = H ∨ ∀ (b : Nat) (blk : Blk), H1[b]? = some blk → H[b]? = some blk ∨ BelB H1.length blk) (h : vc12 (real Try.prog) a0 a1 a2 a3 H (retF v H1)) : Ret Try.prog 12 [a0, a1, a2, a3] H v H1 :=
 ret_mk (an := an12) hm Try.call12 Try.func12 rfl wf12 hd hn hb (Eq.mpr (tie12 (real Try.prog) a0 a1 a2 a3 H (retF v H1)) h)
theorem mkE12 (a0 a1 a2 a3 : V) {H : Hp} {Q : V → Hp → Prop} (h : vc12 (real Try.prog) a0 a1 a2 a3 H (retW Q)) : RetE Try.prog 12 [a0, a1, a2, a3] H Q :=
 retE_mk (an := an12) hm Try.call12 Try.func12 rfl wf12 (Eq.mpr (tie12 (real Try.prog) a0 a1 a2 a3 H (retW Q)) h)
theorem mko12 (a0 a1 a2 a3 : V) {H : Hp} {xs : List V} {H1 : Hp} (hn : H.length ≤ H1.length) (hb : H1 = H ∨ ∀ (b : Nat) (blk : Blk), H1[b]? = some blk → H[b]? = some blk ∨ BelB H1.length blk) (h : vc12 (real Try.prog) a0 a1 a2 a3 H (retO xs H1)) : Ret Try.prog 12 [a0, a1, a2, a3] H (.arr xs .own) H1 :=
 ret_mko (an := an12) (t := 8) hm Try.call12 Try.func12 rfl wf12 rfl hn hb (Eq.mpr (tie12 (real Try.prog) a0 a1 a2 a3 H (retO xs H1)) h)
end Go.Proofs.Ytgicpobploinhaa
set_option linter.unusedSimpArgs false
set_option linter.unnecessarySimpa false
set_option maxHeartbeats 2000000
namespace Go.Proofs.Ytgicpobploinhaa
open Go Go.Ab Go.Proofs
attribute [local congr] g_bin g_nilS g_nilP g_un g_ext g_bx g_fa g_ld g_st g_ix g_ixA g_slc g_mk g_bs g_bd g_nc g_cv g_len g_lenT g_app g_appB g_cpy g_mm g_call g_callG g_calm g_calmG g_range g_res g_pick g_cond g_loop g_Jv g_eqS g_eqP g_fd g_ixT g_ta g_lkp g_upd g_mkM g_appS g_inv g_callE g_callEG g_invE g_zr g_wr
theorem c12 (ws : List Wd) (rs : List Rk) (a b : List Int) (H : Hp) (w0 : ws.length ≤ 9223372036854775807) (w1 : rs.length ≤ 9223372036854775807) (w2 : a.length ≤ 9223372036854775807) (w3 : b.length ≤ 9223372036854775807) : Ret Try.prog 12 [.arr (ws.map wdV) .no, .arr (rs.map rkV) .no, ints a .no, ints b .no] H (B true) H := by
 refine mk12 _ _ _ _ rfl (Nat.le_refl _) (.inl rfl) ?_
 simp only [vc12, real]
 repeat (first | (with_reducible first | refine Ju.go ?_ | (refine Hd.go ?_; intro K Q hK hQ; simp only [nod_arr, nd_no, e_lenA, List.length_map, nod_imm, Try.underlying3, e_gtr, e_gF, j_or', j_one, nod_ints, e_len, List.getD_cons_succ, List.getD_cons_zero, e_cond]; subst hK hQ) | refine Jr.go ?_) | refine sd ?_)
 split
 ·refine call_of (c15 _) ?_
  repeat (first | (with_reducible first | refine Ju.go ?_ | (refine Hd.go ?_; intro K Q hK hQ; simp only []; subst hK hQ) | refine Jr.go ?_) | refine sd ?_)
  exact end1 (fzI _)
 ·refine call_of (c42 ws rs a b H w0 w1 w2 w3) ?_
  have c1 := c42 ws rs b a H w0 w1 w3 w2
  have c2 := c40 ws rs a H w0 w1 w2
  have c3 := c43 ws b H w0 w3
  have es : (okWs ws && okRs rs && okBr b ws.length && okBr a ws.length) = (okWs ws && okRs rs && okBr a ws.length && okBr b ws.length) := by
   rw [Bool.and_assoc, Bool.and_comm (okBr b ws.length), ← Bool.and_assoc]
  unfold cmV at c1 ⊢
  rw [es] at c1
  cases hok : (okWs ws && okRs rs && okBr a ws.length && okBr b ws.length)
  ·rw [hok, if_neg (by decide)] at c1
   rw [if_neg (by decide)]
   repeat (first | (with_reducible first | refine Ju.go ?_ | (refine Hd.go ?_; intro K Q hK hQ; simp only [nod_tup, List.map_cons, nod2_imm, List.map_nil, e_x30, e_x31, e_x32, List.getD_cons_zero, List.getD_cons_succ, nod_arr, nd_no, nod_ints]; subst hK hQ) | refine Jr.go ?_) | refine sd ?_)
   refine call_of c1 ?_
   repeat (first | (with_reducible first | refine Ju.go ?_ | (refine Hd.go ?_; intro K Q hK hQ; simp only [nod_tup, List.map_cons, nod2_imm, List.map_nil, e_x30, e_x31, e_x32, List.getD_cons_zero, List.getD_cons_succ, nod_arr, nd_no, nod_ints]; subst hK hQ) | refine Jr.go ?_) | refine sd ?_)
   refine call_of c2 ?_
   generalize (okWs ws && okRs rs && okBr a ws.length) = s at *
   cases s
   ·repeat (first | (with_reducible first | refine Ju.go ?_ | (refine Hd.go ?_; intro K Q hK hQ; simp only [nod_imm, e_not, Bool.not_false, List.getD_cons_zero, nod_arr, nd_no, List.getD_cons_succ, nod_ints, e_gF, cond_true, j_one, e_cond, if_true, e_eql, decide_true, e_gT, Try.underlying3]; subst hK hQ) | refine Jr.go ?_) | refine sd ?_)
    refine call_of (c15 _) ?_
    repeat (first | (with_reducible first | refine Ju.go ?_ | (refine Hd.go ?_; intro K Q hK hQ; simp only [nod_imm]; subst hK hQ) | refine Jr.go ?_) | refine sd ?_)
    exact end1 (fzI _)
   ·rw [Bool.true_and] at hok
    rw [hok] at c3
    repeat (first | (with_reducible first | refine Ju.go ?_ | (refine Hd.go ?_; intro K Q hK hQ; simp only [nod_imm, e_not, Bool.not_true, List.getD_cons_zero, nod_arr, nd_no, List.getD_cons_succ, nod_ints, e_gF, cond_false]; subst hK hQ) | refine Jr.go ?_) | refine sd ?_)
    refine call_of c3 ?_
    repeat (first | (with_reducible first | refine Ju.go ?_ | (refine Hd.go ?_; intro K Q hK hQ; simp only [nod_imm, e_not, Bool.not_false, List.getD_cons_zero, List.getD_cons_succ, e_cond, if_true, e_eql, decide_true, e_gT, cond_true, j_one, Try.underlying3]; subst hK hQ) | refine Jr.go ?_) | refine sd ?_)
    refine call_of (c15 _) ?_
    repeat (first | (with_reducible first | refine Ju.go ?_ | (refine Hd.go ?_; intro K Q hK hQ; simp only [nod_imm]; subst hK hQ) | refine Jr.go ?_) | refine sd ?_)
    exact end1 (fzI _)
  ·rw [hok, if_pos rfl, cmR, cmI_symm] at c1
   rw [if_pos rfl]
   rw [Bool.and_eq_true] at hok
   obtain ⟨hok2, hb⟩ := hok
   rw [hok2] at c2
   rw [hb] at c3
   rw [Bool.and_eq_true, Bool.and_eq_true] at hok2
   obtain ⟨⟨hw, hr⟩, ha⟩ := hok2
   have hrl := (okRs_p hr).1
   have hx := vios_len ws a rs
   have hy := vios_len ws b rs
   have rx := @vios_rng ws a rs hw hr ha
   have ry := @vios_rng ws b rs hw hr hb
   have d1 := c41 ws a rs H hw hr ha
   have d2 := c41 ws b rs H hw hr hb
   generalize vios ws a rs = x at *
   generalize vios ws b rs = y at *
   unfold cmR
   cases hc : cmI rs.length x y with
   | none =>
    rw [hc] at c1
    have hp := cmI_all hc
    simp only at c1 ⊢
    repeat (first | (with_reducible first | refine Ju.go ?_ | (refine Hd.go ?_; intro K Q hK hQ; simp only [Int.reduceNeg, nod_tup, List.map_cons, nod2_imm, List.map_nil, e_x30, e_x31, e_x32, List.getD_cons_zero, List.getD_cons_succ, nod_arr, nd_no, nod_ints]; subst hK hQ) | refine Jr.go ?_) | refine sd ?_)
    refine call_of c1 ?_
    repeat (first | (with_reducible first | refine Ju.go ?_ | (refine Hd.go ?_; intro K Q hK hQ; simp only [Int.reduceNeg, nod_tup, List.map_cons, nod2_imm, List.map_nil, e_x30, e_x31, e_x32, List.getD_cons_zero, List.getD_cons_succ, nod_arr, nd_no, nod_ints]; subst hK hQ) | refine Jr.go ?_) | refine sd ?_)
    refine call_of c2 ?_
    repeat (first | (with_reducible first | refine Ju.go ?_ | (refine Hd.go ?_; intro K Q hK hQ; simp only [nod_imm, e_not, Bool.not_true, Int.reduceNeg, List.getD_cons_zero, nod_arr, nd_no, List.getD_cons_succ, nod_ints, e_gF, cond_false]; subst hK hQ) | refine Jr.go ?_) | refine sd ?_)
    refine call_of c3 ?_
    repeat (first | (with_reducible first | refine Ju.go ?_ | (refine Hd.go ?_; intro K Q hK hQ; simp only [nod_imm, e_not, Bool.not_true, Int.reduceNeg, List.getD_cons_zero, List.getD_cons_succ, e_cond, Bool.false_eq_true, if_false, nod_arr, nd_no, nod_ints]; subst hK hQ) | refine Jr.go ?_) | refine sd ?_)
    refine call_of d1 ?_
    repeat (first | (with_reducible first | refine Ju.go ?_ | (refine Hd.go ?_; intro K Q hK hQ; simp only [Int.reduceNeg, List.getD_cons_zero, nod_arr, nd_no, List.getD_cons_succ, nod_ints]; subst hK hQ) | refine Jr.go ?_) | refine sd ?_)
    refine call_of d2 ?_
    repeat (first | (with_reducible first | refine Ju.go ?_ | (refine Hd.go ?_; intro K Q hK hQ; simp only []; subst hK hQ) | refine Jr.go ?_) | refine sd ?_)
    refine loop_of (fun i : Nat => i ≤ rs.length) (fun i => [I (-1), I 0, I 0, I (-1), I 0, I 0, ints x .no, ints y .no, I i]) (fun _ => H) (fun i => rs.length - i) 0 (Nat.zero_le _) rfl rfl ?_
    intro i hi
    repeat (first | (with_reducible first | refine Ju.go ?_ | (refine Hd.go ?_; intro K Q hK hQ; simp only [Int.reduceNeg, List.getD_cons_succ, List.getD_cons_zero, nod_ints, nd_no, e_len, nod_imm, Try.underlying3, e_lss, e_cond, decide_eq_true_eq]; subst hK hQ) | refine Jr.go ?_) | refine sd ?_)
    by_cases hlt : i < rs.length
    ·have dx : (i : Int) < x.length := by omega
     have dy : (i : Int) < y.length := by omega
     have dx2 : i < x.length := by omega
     have dy2 : i < y.length := by omega
     repeat (first | (with_reducible first | refine Ju.go ?_ | (refine Hd.go ?_; intro K Q hK hQ; simp only [dx, if_true, Int.reduceNeg, List.getD_cons_succ, List.getD_cons_zero, nod_ints, nd_no, nod_imm, e_ix, Int.toNat_natCast, hp i hlt, true_and, nod_cptr, e_ldc, dy, Try.underlying3, e_neq, decide_true, Bool.not_true, e_cond, Bool.false_eq_true, if_false, e_add]; subst hK hQ) | refine Jr.go ?_) | refine sd ?_)
     exact ⟨i + 1, hlt, rfl, rfl, by omega⟩
    ·have dx : ¬ (i : Int) < x.length := by omega
     repeat (first | (with_reducible first | refine Ju.go ?_ | (refine Hd.go ?_; intro K Q hK hQ; simp only [dx, if_false, Int.reduceNeg, List.getD_cons_succ, List.getD_cons_zero, nod_imm, e_eql, decide_true, e_gT, cond_true, j_one, Try.underlying3]; subst hK hQ) | refine Jr.go ?_) | refine sd ?_)
     refine call_of (c15 _) ?_
     repeat (first | (with_reducible first | refine Ju.go ?_ | (refine Hd.go ?_; intro K Q hK hQ; simp only [nod_imm]; subst hK hQ) | refine Jr.go ?_) | refine sd ?_)
     exact end1 (fzI _)
   | some k =>
    rw [hc] at c1
    obtain ⟨k1, k2, k3⟩ := cmI_is hc
    have k2' : ¬ y.getD k 0 = x.getD k 0 := fun h => k2 h.symm
    have h1 := rx k1
    have h2 := ry k1
    have r2 : R64 (y.getD k 0 - x.getD k 0) := by unfold R64; omega
    have r3 : R64 (0 - (y.getD k 0 - x.getD k 0)) := by unfold R64; omega
    simp only at c1 ⊢
    repeat (first | (with_reducible first | refine Ju.go ?_ | (refine Hd.go ?_; intro K Q hK hQ; simp only [nod_tup, List.map_cons, nod2_imm, List.map_nil, e_x30, e_x31, e_x32, List.getD_cons_zero, List.getD_cons_succ, nod_arr, nd_no, nod_ints]; subst hK hQ) | refine Jr.go ?_) | refine sd ?_)
    refine call_of c1 ?_
    repeat (first | (with_reducible first | refine Ju.go ?_ | (refine Hd.go ?_; intro K Q hK hQ; simp only [nod_tup, List.map_cons, nod2_imm, List.map_nil, e_x30, e_x31, e_x32, List.getD_cons_zero, List.getD_cons_succ, nod_arr, nd_no, nod_ints]; subst hK hQ) | refine Jr.go ?_) | refine sd ?_)
    refine call_of c2 ?_
    repeat (first | (with_reducible first | refine Ju.go ?_ | (refine Hd.go ?_; intro K Q hK hQ; simp only [nod_imm, e_not, Bool.not_true, List.getD_cons_zero, nod_arr, nd_no, List.getD_cons_succ, nod_ints, e_gF, cond_false]; subst hK hQ) | refine Jr.go ?_) | refine sd ?_)
    refine call_of c3 ?_
    repeat (first | (with_reducible first | refine Ju.go ?_ | (refine Hd.go ?_; intro K Q hK hQ; simp only [nod_imm, e_not, Bool.not_true, List.getD_cons_zero, List.getD_cons_succ, e_cond, Bool.false_eq_true, if_false, nod_arr, nd_no, nod_ints]; subst hK hQ) | refine Jr.go ?_) | refine sd ?_)
    refine call_of d1 ?_
    repeat (first | (with_reducible first | refine Ju.go ?_ | (refine Hd.go ?_; intro K Q hK hQ; simp only [List.getD_cons_zero, nod_arr, nd_no, List.getD_cons_succ, nod_ints]; subst hK hQ) | refine Jr.go ?_) | refine sd ?_)
    refine call_of d2 ?_
    repeat (first | (with_reducible first | refine Ju.go ?_ | (refine Hd.go ?_; intro K Q hK hQ; simp only []; subst hK hQ) | refine Jr.go ?_) | refine sd ?_)
    refine loop_of (fun i : Nat => i ≤ k) (fun i => [I k, I (y.getD k 0 - x.getD k 0), I 0, I k, I (x.getD k 0 - y.getD k 0), I 0, ints x .no, ints y .no, I i]) (fun _ => H) (fun i => k - i) 0 (Nat.zero_le _) rfl rfl ?_
    intro i hi
    have dx : (i : Int) < x.length := by omega
    have dy : (i : Int) < y.length := by omega
    have dx2 : i < x.length := by omega
    have dy2 : i < y.length := by omega
    repeat (first | (with_reducible first | refine Ju.go ?_ | (refine Hd.go ?_; intro K Q hK hQ; simp only [List.getD_cons_succ, List.getD_cons_zero, nod_ints, nd_no, e_len, nod_imm, Try.underlying3, e_lss, e_cond, decide_eq_true_eq]; subst hK hQ) | refine Jr.go ?_) | refine sd ?_)
    by_cases hlt : i < k
    ·repeat (first | (with_reducible first | refine Ju.go ?_ | (refine Hd.go ?_; intro K Q hK hQ; simp only [dx, if_true, List.getD_cons_succ, List.getD_cons_zero, nod_ints, nd_no, nod_imm, e_ix, Int.toNat_natCast, k3 i hlt, true_and, nod_cptr, e_ldc, dy, Try.underlying3, e_neq, decide_true, Bool.not_true, e_cond, Bool.false_eq_true, if_false, e_add]; subst hK hQ) | refine Jr.go ?_) | refine sd ?_)
     exact ⟨i + 1, hlt, rfl, rfl, by omega⟩
    ·obtain rfl : i = k := by omega
     have en : x.getD i 0 - y.getD i 0 = 0 - (y.getD i 0 - x.getD i 0) := by omega
     repeat (first | (with_reducible first | refine Ju.go ?_ | (refine Hd.go ?_; intro K Q hK hQ; simp only [dx, if_true, en, List.getD_cons_succ, List.getD_cons_zero, nod_ints, nd_no, nod_imm, e_ix, Int.toNat_natCast, true_and, nod_cptr, e_ldc, dy, Try.underlying3, e_neq, k2, decide_false, Bool.not_false, e_cond, e_eql, decide_true, e_gT, cond_true, j_one, e_sub, r2, j_side, e_neg, r3]; subst hK hQ) | refine Jr.go ?_) | refine sd ?_)
     refine call_ofD (c15 _) ?_
     repeat (first | (with_reducible first | refine Ju.go ?_ | (refine Hd.go ?_; intro K Q hK hQ; simp only [nod_imm]; subst hK hQ) | refine Jr.go ?_) | refine sd ?_)
     exact end1 (fzI _)
open Go.ChangeShapes Go.WideShapes Go.ChangeAt Go.RowKit
theorem own : ownKnob Try.prog.godebug = none := by kernel_rfl
theorem laidOut : laidOutB Try.prog = true := by kernel_rfl
set_option maxRecDepth 100000 in
theorem lifted (os : Os) (started : os.Started) (H : Type) (enc : TypeId × Value → H) :
    ReturnsInHanded {} Try.checked os 12 .any (Rows.prosodyComparesSpec.pre6 enc Try.prog Try.f12 Rows.prosodyComparesRow.domain false) (Rows.prosodyComparesSpec.post enc Try.prog Try.f12 false true false false) := by
  refine returnsInHanded_of_change (C := Try.checked) own started (by kernel_rfl) Try.func12
    (ChangeSpec.witness6 (enc := enc) (C := Try.checked) false ⟨#[], #[.slice none 0 0, .slice none 0 0, .slice none 0 0, .slice none 0 0], []⟩ 8 (by kernel_rfl) (by kernel_rfl) (by kernel_rfl) (by kernel_rfl)) ?_
  intro W base args ds gs before hval0 hW hcnd _
  have hval : ∀ (j : Nat) t v, Try.f12.params[j]? = some t → args[j]? = some v → Value.okWide Try.prog W .any base t v := hval0
  have hW' := hW
  obtain ⟨p, q, hA0, hV, rfl, hfz, hnd⟩ := hW
  have hA : DataW.TrodAll enc Try.prog W 0 (fun _ => true) true Try.f12.params.toList args.toList ds p := hA0
  rw [Try.params12] at hA hval
  obtain ⟨v0, vs0, d0, ds0, p0, q0, hargs, rfl, rfl, h0, r0⟩ := trodAll_cons hA
  obtain ⟨v1, vs1, d1, ds1, p1, q1, rfl, rfl, rfl, h1, r1⟩ := trodAll_cons r0
  obtain ⟨v2, vs2, d2, ds2, p2, q2, rfl, rfl, rfl, h2, r2⟩ := trodAll_cons r1
  obtain ⟨v3, vs3, d3, ds3, p3, q3, rfl, rfl, rfl, h3, r3⟩ := trodAll_cons r2
  obtain ⟨rfl, rfl, rfl⟩ := trodAll_nil r3
  obtain rfl : args = #[v0, v1, v2, v3] := by cases args; simp_all
  obtain ⟨rfl, rfl⟩ := trodVars_none hV
  have lt0 : ∀ x ∈ p0, x.block < W.heap.size := by obtain ⟨m, hm⟩ := h0; exact DataW.trod_lt m _ _ _ hm
  obtain ⟨l0, w0, e0⟩ := in_words (hval 0 _ v0 rfl rfl) h0
  have lt1 : ∀ x ∈ p1, x.block < W.heap.size := by obtain ⟨m, hm⟩ := h1; exact DataW.trod_lt m _ _ _ hm
  obtain ⟨l1, w1, e1⟩ := in_ranks (hval 1 _ v1 rfl rfl) h1
  have lt2 : ∀ x ∈ p2, x.block < W.heap.size := by obtain ⟨m, hm⟩ := h2; exact DataW.trod_lt m _ _ _ hm
  obtain ⟨l2, w2, e2⟩ := in_is (hval 2 _ v2 rfl rfl) h2
  have lt3 : ∀ x ∈ p3, x.block < W.heap.size := by obtain ⟨m, hm⟩ := h3; exact DataW.trod_lt m _ _ _ hm
  obtain ⟨l3, w3, e3⟩ := in_is (hval 3 _ v3 rfl rfl) h3
  clear hA0 hval0
  refine (bridge (args := [.arr (l0.map wdV) .no, .arr (l1.map rkV) .no, ints l2 .no, ints l3 .no]) (ra := #[v0, v1, v2, v3]) (c12 l0 l1 l2 l3 [] w0 w1 w2 w3) rfl (by intro a ha; simp at ha; rcases ha with rfl | rfl | rfl | rfl <;> rfl) (fun i => ?_)).mono fun e W' ⟨he, bel⟩ => ?_
  · match i with
    | 0 => exact e0
    | 1 => exact e1
    | 2 => exact e2
    | 3 => exact e3
    | i + 4 => exact .junk _
  · subst he
    exact ⟨_, rfl, _, _, _, [], _, [], hW', trodAll_mk1 (shut_bool Try.underlying4 _), (trodAll_cons_mk (Below.trod laidOut (by kernel_rfl) (of_decide_eq_true (by kernel_rfl)) h0 bel lt0) (trodAll_cons_mk (Below.trod laidOut (by kernel_rfl) (of_decide_eq_true (by kernel_rfl)) h1 bel lt1) (trodAll_cons_mk (Below.trod laidOut (by kernel_rfl) (of_decide_eq_true (by kernel_rfl)) h2 bel lt2) (trodAll_cons_mk (Below.trod laidOut (by kernel_rfl) (of_decide_eq_true (by kernel_rfl)) h3 bel lt3) trodAll_mk0)))), rfl, bel.frame _, fun h => by cases h⟩
theorem over : Rows.prosodyComparesRow.holds Try.pinned (OpenSpec.ofChange Rows.prosodyComparesSpec) :=
 OpenClaim.holds_of_wide 12 Try.f12 rfl rfl rfl rfl rfl rfl rfl ⟨rfl, rfl, rfl, rfl, rfl⟩ rfl rfl rfl rfl rfl (by kernel_rfl) Try.func12 (by kernel_rfl)
  (of_decide_eq_true (by kernel_rfl)) (by unfold Func.isWrapper; first | (rw [if_pos (by decide +kernel)]; kernel_rfl) | (rw [if_neg (by decide +kernel)]; exact ⟨rfl, rfl⟩))
  (fun os started H enc _ => lifted os started H enc)
theorem prosodyCompares_holds : Rows.ProsodyComparesSaid := over
#print axioms prosodyCompares_holds
end Go.Proofs.Ytgicpobploinhaa
