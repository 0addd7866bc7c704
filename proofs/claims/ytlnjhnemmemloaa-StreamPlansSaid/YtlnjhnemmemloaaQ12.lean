/- Jobs: when they are ready, whether they are in time, an order in which they are, or the errors: true for every input. -/
import Derived.Test.YtlnjhnemmemloaaP6
import Derived.Test.YtlnjhnemmemloaaProg
import Derived.Test.YtlnjhnemmemloaaRows
set_option linter.unusedVariables false
set_option maxRecDepth 20000
set_option maxHeartbeats 4000000
namespace Go.Proofs.Ytlnjhnemmemloaa
open Go Go.Ab Go.Proofs
def an12 : An := { imm := [], jn := [(2, [0, 1, 24]), (5, [0, 1, 5, 6, 7, 8]), (7, [0, 1, 5, 6, 7, 8, 9, 10, 47]), (8, [0, 1, 5, 6, 7, 8, 9, 10]), (9, [0, 1, 9, 10, 93]), (13, [9, 10, 11])], lp := [], loud := [], ord := [] }
def vc12 (C : Cb) (a0 a1 : V) (H : Hp) (R : List V → Hp → Prop) : Prop :=
 Jn (fun l1 H2 =>
 aCond (l1.getD 2 .junk).nod (
 C.callE 15 [] H2 fun v4 H5 =>
 R [v4] H5) (
 C.callE 43 [(l1.getD 0 .junk).nod.nod, (l1.getD 1 .junk).nod.nod] H2 fun v6 H7 =>
 C.aExt 0 v6.nod.nod fun v8 =>
 C.aExt 1 v6.nod.nod fun v9 =>
 Jn (fun l10 H11 =>
 C.callE 45 [(l10.getD 0 .junk).nod.nod, (l10.getD 1 .junk).nod.nod] H11 fun v13 H14 =>
 C.aExt 0 v13.nod.nod fun v15 =>
 C.aExt 1 v13.nod.nod fun v16 =>
 Jn (fun l17 H18 =>
 Jn (fun l20 H21 =>
 aCond (l20.getD 4 .junk).nod (
 R [(B false)] H21) (
 C.callE 49 [(l20.getD 1 .junk).nod.nod] H21 fun v23 H24 =>
 Jn (fun l25 H26 =>
 C.aBin (Try.prog.underlying 30) .eql (l25.getD 1 .junk).nod.nod (I 0) fun v28 =>
 Jv (fun v29 H30 =>
 Jv (fun v34 H35 =>
 R [v34] H35)
 (fun R36 =>
 aG v29.nod true (
 C.callE 15 [] H30 fun v37 H38 =>
 R36 v37.nod H38) (
 R36 (B false) H30)))
 (fun R31 =>
 aG v28.nod true (
 C.callE 24 [(l25.getD 0 .junk).nod.nod, (l25.getD 2 .junk).nod.nod] H26 fun v32 H33 =>
 R31 v32.nod H33) (
 R31 (B false) H26)))
 (fun R27 =>
 C.callE 50 [(l20.getD 1 .junk).nod.nod, v23.nod.nod] H24 fun v39 H40 =>
 C.callE 48 [(l20.getD 0 .junk).nod.nod, v39.nod] H40 fun v41 H42 =>
 C.aUn .not v41.nod fun v43 =>
 aCond v43.nod (
 C.aBin (Try.prog.underlying 30) .eql (l20.getD 3 .junk).nod.nod (I 5) fun v44 =>
 Jv (fun v45 H46 =>
 Jv (fun v50 H51 =>
 R [v50] H51)
 (fun R52 =>
 aG v45.nod true (
 C.callE 15 [] H46 fun v53 H54 =>
 R52 v53.nod H54) (
 R52 (B false) H46)))
 (fun R47 =>
 aG v44.nod true (
 C.aLen (l20.getD 2 .junk).nod.nod fun v48 =>
 C.aBin (Try.prog.underlying 3) .eql v48.nod (I 0) fun v49 =>
 R47 v49.nod H42) (
 R47 (B false) H42))) (
 R27 [(l20.getD 2 .junk), (l20.getD 3 .junk), v23] H42))))
 (fun R22 =>
 C.aBin (Try.prog.underlying 30) .neq (l17.getD 3 .junk).nod.nod (I 0) fun v55 =>
 Jv (fun v56 H57 =>
 Jv (fun v60 H61 =>
 Jv (fun v68 H69 =>
 R22 [(l17.getD 0 .junk), (l17.getD 1 .junk), (l17.getD 6 .junk), (l17.getD 7 .junk), v68] H69)
 (fun R70 =>
 aG v60.nod false (
 C.callE 48 [(l17.getD 0 .junk).nod.nod, (l17.getD 1 .junk).nod.nod] H61 fun v71 H72 =>
 C.aBin (Try.prog.underlying 4) .neq (l17.getD 4 .junk).nod.nod v71.nod fun v73 =>
 R70 v73.nod H72) (
 R70 (B true) H61)))
 (fun R62 =>
 aG v56.nod false (
 C.callE 47 [(l17.getD 0 .junk).nod.nod, (l17.getD 1 .junk).nod.nod] H57 fun v63 H64 =>
 C.callE 24 [(l17.getD 2 .junk).nod.nod, v63.nod] H64 fun v65 H66 =>
 C.aUn .not v65.nod fun v67 =>
 R62 v67.nod H66) (
 R62 (B true) H57)))
 (fun R58 =>
 aG v55.nod false (
 C.aBin (Try.prog.underlying 30) .neq (l17.getD 5 .junk).nod.nod (I 0) fun v59 =>
 R58 v59.nod H18) (
 R58 (B true) H18))))
 (fun R19 =>
 Jn (fun l74 H75 =>
 aCond (l74.getD 8 .junk).nod (
 C.aBin (Try.prog.underlying 30) .eql (l74.getD 3 .junk).nod.nod (I 2) fun v77 =>
 Jv (fun v78 H79 =>
 Jv (fun v82 H83 =>
 Jv (fun v86 H87 =>
 Jv (fun v93 H94 =>
 Jv (fun v97 H98 =>
 R [v97] H98)
 (fun R99 =>
 aG v93.nod true (
 C.callE 15 [] H94 fun v100 H101 =>
 R99 v100.nod H101) (
 R99 (B false) H94)))
 (fun R95 =>
 aG v86.nod true (
 C.aUn .not (l74.getD 4 .junk).nod.nod fun v96 =>
 R95 v96.nod H87) (
 R95 (B false) H87)))
 (fun R88 =>
 aG v82.nod true (
 C.aLen (l74.getD 2 .junk).nod.nod fun v89 =>
 C.aLen (l74.getD 6 .junk).nod.nod fun v90 =>
 C.aBin (Try.prog.underlying 3) .add v89.nod v90.nod fun v91 =>
 C.aBin (Try.prog.underlying 3) .eql v91.nod (I 0) fun v92 =>
 R88 v92.nod H83) (
 R88 (B false) H83)))
 (fun R84 =>
 aG v78.nod true (
 C.aBin (Try.prog.underlying 30) .eql (l74.getD 7 .junk).nod.nod (I 2) fun v85 =>
 R84 v85.nod H79) (
 R84 (B false) H79)))
 (fun R80 =>
 aG v77.nod true (
 C.aBin (Try.prog.underlying 30) .eql (l74.getD 5 .junk).nod.nod (I 2) fun v81 =>
 R80 v81.nod H75) (
 R80 (B false) H75))) (
 R19 [(l74.getD 0 .junk), (l74.getD 1 .junk), (l74.getD 2 .junk), (l74.getD 3 .junk), (l74.getD 4 .junk), (l74.getD 5 .junk), (l74.getD 6 .junk), (l74.getD 7 .junk)] H75))
 (fun R76 =>
 C.callE 46 [(l10.getD 0 .junk).nod.nod, (l10.getD 1 .junk).nod.nod] H14 fun v102 H103 =>
 C.aUn .not v102.nod fun v104 =>
 R76 [(l10.getD 0 .junk), (l10.getD 1 .junk), (l10.getD 2 .junk), (l10.getD 3 .junk), (l10.getD 4 .junk), (l10.getD 5 .junk), v15, v16, v104] H103)))
 (fun R12 =>
 C.callE 44 [(l1.getD 0 .junk).nod.nod, (l1.getD 1 .junk).nod.nod] H7 fun v105 H106 =>
 C.aExt 0 v105.nod.nod fun v107 =>
 C.aExt 1 v105.nod.nod fun v108 =>
 R12 [(l1.getD 0 .junk), (l1.getD 1 .junk), v8, v9, v107, v108] H106)))
 (fun R3 =>
 C.aLen a1.nod.nod fun v109 =>
 C.aBin (Try.prog.underlying 3) .gtr v109.nod (I 60) fun v110 =>
 Jv (fun v111 H112 =>
 Jv (fun v116 H117 =>
 R3 [a0, a1, v116] H117)
 (fun R118 =>
 aG v111.nod false (
 C.aLen a1.nod.nod fun v119 =>
 C.aBin (Try.prog.underlying 3) .gtr v119.nod (I 2000) fun v120 =>
 R118 v120.nod H112) (
 R118 (B true) H112)))
 (fun R113 =>
 aG v110.nod true (
 C.aLen a1.nod.nod fun v114 =>
 C.aBin (Try.prog.underlying 3) .leq v114.nod (I 1000) fun v115 =>
 R113 v115.nod H) (
 R113 (B false) H)))
theorem wf12 : (Nat.ble 2 Try.f12.ntmps && wfC an12 Try.f12.ntmps (Try.f12.body.getD .skip)) = true := by kernel_rfl
theorem tie12 (C : Cb) (a0 a1 : V) (H : Hp) (R : List V → Hp → Prop) : wpG Try.prog C an12 (Try.f12.body.getD .skip) (argF [a0, a1]) H (retG Try.prog C Try.f12 R) (fun _ _ _ => False) (retG Try.prog C Try.f12 R) = vc12 C a0 a1 H R := by kernel_rfl
theorem mk12 (a0 a1 : V) {H : Hp} {v : V} {H1 : Hp} (hd : v.Nd) (hn : H.length ≤ H1.length) (hb : H1 = H ∨ ∀ (b : Nat) (blk : Blk), H1[b]? = some blk → H[b]? = some blk ∨ BelB H1.length blk) (h : vc12 (real Try.prog) a0 a1 H (retF v H1)) : Ret Try.prog 12 [a0, a1] H v H1 :=
 ret_mk (an := an12) hm Try.call12 Try.func12 rfl wf12 hd hn hb (Eq.mpr (tie12 (real Try.prog) a0 a1 H (retF v H1)) h)
theorem mkE12 (a0 a1 : V) {H : Hp} {Q : V → Hp → Prop} (h : vc12 (real Try.prog) a0 a1 H (retW Q)) : RetE Try.prog 12 [a0, a1] H Q :=
 retE_mk (an := an12) hm Try.call12 Try.func12 rfl wf12 (Eq.mpr (tie12 (real Try.prog) a0 a1 H (retW Q)) h)
theorem mko12 (a0 a1 : V) {H : Hp} {xs : List V} {H1 : Hp} (hn : H.length ≤ H1.length) (hb : H1 = H ∨ ∀ (b : Nat) (blk : Blk), H1[b]? = some blk → H[b]? = some blk ∨ BelB H1.length blk) (h : vc12 (real Try.prog) a0 a1 H (retO xs H1)) : Ret Try.prog 12 [a0, a1] H (.arr xs .own) H1 :=
 ret_mko (an := an12) (t := 4) hm Try.call12 Try.func12 rfl wf12 rfl hn hb (Eq.mpr (tie12 (real Try.prog) a0 a1 H (retO xs H1)) h)
end Go.Proofs.Ytlnjhnemmemloaa
set_option linter.unusedSimpArgs false
set_option linter.unnecessarySimpa false
set_option maxHeartbeats 2000000
namespace Go.Proofs.Ytlnjhnemmemloaa
open Go Go.Ab Go.Proofs
attribute [local congr] g_bin g_nilS g_nilP g_un g_ext g_bx g_fa g_ld g_st g_ix g_ixA g_slc g_mk g_bs g_bd g_nc g_cv g_len g_lenT g_app g_appB g_cpy g_mm g_call g_callG g_calm g_calmG g_range g_res g_pick g_cond g_loop g_Jv g_eqS g_eqP g_fd g_ixT g_ta g_lkp g_upd g_mkM g_appS g_inv g_callE g_callEG g_invE g_zr g_wr
theorem c12 (pw : Int) (l : List Jb) (H : Hp) (w1 : l.length ≤ 9223372036854775807) : Ret Try.prog 12 [I pw, .arr (l.map jbV) .no] H (B true) H := by
 refine mk12 _ _ rfl (Nat.le_refl _) (.inl rfl) ?_
 simp only [vc12, real]
 repeat (first | (with_reducible first | refine Ju.go ?_ | (refine Hd.go ?_; intro K Q hK hQ; simp only [nod_arr, nd_no, e_lenA, List.length_map, nod_imm, Try.underlying3, e_gtr, e_leq, e_gT, j_and', j_one, e_gF, j_or', List.getD_cons_succ, List.getD_cons_zero, e_cond]; subst hK hQ) | refine Jr.go ?_) | refine sd ?_)
 have h60 : (decide (60 < (l.length : Int)) && decide ((l.length : Int) ≤ 1000) || decide (2000 < (l.length : Int))) = false → okJs pw l = true → l.length ≤ 60 := fun h ok => by
  have := (okJs.pw ok).2.1
  simp only [Bool.or_eq_false_iff, Bool.and_eq_false_iff, decide_eq_false_iff_not] at h
  omega
 generalize (decide (60 < (l.length : Int)) && decide ((l.length : Int) ≤ 1000) || decide (2000 < (l.length : Int))) = D at *
 cases D
 ·have h60 := h60 rfl
  have c1 := c43 pw l H w1
  have c2 := c44 pw l H w1
  have c3 := c45 pw l H w1 h60
  have c4 := c46 pw l H w1
  repeat (first | (with_reducible first | refine Ju.go ?_ | (refine Hd.go ?_; intro K Q hK hQ; simp only [Bool.false_eq_true, if_false, List.getD_cons_zero, nod_imm, List.getD_cons_succ, nod_arr, nd_no]; subst hK hQ) | refine Jr.go ?_) | refine sd ?_)
  refine call_of c1 ?_
  unfold ordV at c3
  cases ok : okJs pw l
  ·rw [ok] at c2 c3 c4
   rw [if_neg (by decide)] at c2 c3
   rw [if_neg (by decide)]
   repeat (first | (with_reducible first | refine Ju.go ?_ | (refine Hd.go ?_; intro K Q hK hQ; simp only [nod_tup, List.map_cons, nod2_ints, nd_no, nod2_imm, List.map_nil, e_x20, e_x21, List.getD_cons_zero, nod_imm, List.getD_cons_succ, nod_arr]; subst hK hQ) | refine Jr.go ?_) | refine sd ?_)
   refine call_of c2 ?_
   repeat (first | (with_reducible first | refine Ju.go ?_ | (refine Hd.go ?_; intro K Q hK hQ; simp only [Bool.false_and, nod_tup, List.map_cons, nod2_imm, List.map_nil, e_x20, e_x21, List.getD_cons_zero, List.getD_cons_succ, nod_imm, nod_arr, nd_no]; subst hK hQ) | refine Jr.go ?_) | refine sd ?_)
   refine call_of c3 ?_
   repeat (first | (with_reducible first | refine Ju.go ?_ | (refine Hd.go ?_; intro K Q hK hQ; simp only [nod_tup, List.map_cons, nod2_ints, nd_no, nod2_imm, List.map_nil, e_x20, e_x21, List.getD_cons_zero, nod_imm, List.getD_cons_succ, nod_arr]; subst hK hQ) | refine Jr.go ?_) | refine sd ?_)
   refine call_of c4 ?_
   repeat (first | (with_reducible first | refine Ju.go ?_ | (refine Hd.go ?_; intro K Q hK hQ; simp only [nod_imm, e_not, Bool.not_false, List.getD_cons_zero, List.getD_cons_succ, e_cond, if_true, Try.underlying30, e_eql, decide_true, e_gT, cond_true, j_one, nod_ints, nd_no, Try.underlying3, e_len, List.length_nil, Int.cast_ofNat_Int, e_add, j_side, j_and', Bool.and_true]; subst hK hQ) | refine Jr.go ?_) | refine sd ?_)
   refine call_of (c15x _) ?_
   repeat (first | (with_reducible first | refine Ju.go ?_ | (refine Hd.go ?_; intro K Q hK hQ; simp only [nod_imm]; subst hK hQ) | refine Jr.go ?_) | refine sd ?_)
   exact end1 (fzI _)
  ·rw [ok] at c2 c3 c4
   rw [if_pos rfl] at c2 c3
   rw [if_pos rfl]
   have hl := h60 ok
   have hO := ordL_ok l
   have hol := hO.len
   have c5 := c47 pw l H ok
   have c6 := c48 pw l H ok
   have c7 := c49 l H (by omega)
   have c8 := c50 l (ordL l) H (by omega) (fun x hx => hO.mem hx)
   have c9 := c48 pw (srtJ l (ordL l)) H (okJs_srt ok hO)
   have cA := c24 (rdy pw l) (rdy pw l) .no .no H (by rw [rdy_len]; omega) (.inl rfl) (.inl rfl)
   have cB := c24 (ordL l) (ordL l) .no .no H (by omega) (.inl rfl) (.inl rfl)
   rw [decide_eq_true rfl] at cA cB
   repeat (first | (with_reducible first | refine Ju.go ?_ | (refine Hd.go ?_; intro K Q hK hQ; simp only [nod_tup, List.map_cons, nod2_ints, nd_no, nod2_imm, List.map_nil, e_x20, e_x21, List.getD_cons_zero, nod_imm, List.getD_cons_succ, nod_arr]; subst hK hQ) | refine Jr.go ?_) | refine sd ?_)
   refine call_of c2 ?_
   repeat (first | (with_reducible first | refine Ju.go ?_ | (refine Hd.go ?_; intro K Q hK hQ; simp only [Bool.true_and, nod_tup, List.map_cons, nod2_imm, List.map_nil, e_x20, e_x21, List.getD_cons_zero, List.getD_cons_succ, nod_imm, nod_arr, nd_no]; subst hK hQ) | refine Jr.go ?_) | refine sd ?_)
   refine call_of c3 ?_
   have hbq : ∀ b : Bool, (!(b == b)) = false := fun b => by cases b <;> rfl
   cases hT : inT pw (srtJ l (ordL l))
   ·rw [hT] at c9
    rw [if_neg (by decide)]
    repeat (first | (with_reducible first | refine Ju.go ?_ | (refine Hd.go ?_; intro K Q hK hQ; simp only [nod_tup, List.map_cons, nod2_ints, nd_no, nod2_imm, List.map_nil, e_x20, e_x21, List.getD_cons_zero, nod_imm, List.getD_cons_succ, nod_arr]; subst hK hQ) | refine Jr.go ?_) | refine sd ?_)
    refine call_of c4 ?_
    repeat (first | (with_reducible first | refine Ju.go ?_ | (refine Hd.go ?_; intro K Q hK hQ; simp only [nod_imm, e_not, Bool.not_true, List.getD_cons_zero, List.getD_cons_succ, e_cond, Bool.false_eq_true, if_false, Try.underlying30, e_neq, decide_true, e_gF, cond_false, j_one, nod_arr, nd_no, nod_ints]; subst hK hQ) | refine Jr.go ?_) | refine sd ?_)
    refine call_of c5 ?_
    repeat (first | (with_reducible first | refine Ju.go ?_ | (refine Hd.go ?_; intro K Q hK hQ; simp only [nod_ints, nd_no]; subst hK hQ) | refine Jr.go ?_) | refine sd ?_)
    refine call_of cA ?_
    repeat (first | (with_reducible first | refine Ju.go ?_ | (refine Hd.go ?_; intro K Q hK hQ; simp only [nod_imm, e_not, Bool.not_true, List.getD_cons_zero, List.getD_cons_succ, nod_arr, nd_no, Try.underlying4, e_gF, cond_false]; subst hK hQ) | refine Jr.go ?_) | refine sd ?_)
    refine call_of c6 ?_
    repeat (first | (with_reducible first | refine Ju.go ?_ | (refine Hd.go ?_; intro K Q hK hQ; simp only [nod_imm, e_bne, beq_self_eq_true, Bool.not_true, List.getD_cons_zero, List.getD_cons_succ, e_cond, Bool.false_eq_true, if_false, nod_arr, nd_no]; subst hK hQ) | refine Jr.go ?_) | refine sd ?_)
    refine call_of c7 ?_
    repeat (first | (with_reducible first | refine Ju.go ?_ | (refine Hd.go ?_; intro K Q hK hQ; simp only [List.getD_cons_succ, List.getD_cons_zero, nod_arr, nd_no, nod_ints]; subst hK hQ) | refine Jr.go ?_) | refine sd ?_)
    refine call_of c8 ?_
    repeat (first | (with_reducible first | refine Ju.go ?_ | (refine Hd.go ?_; intro K Q hK hQ; simp only [List.getD_cons_zero, nod_imm, nod_arr, nd_no]; subst hK hQ) | refine Jr.go ?_) | refine sd ?_)
    refine call_of c9 ?_
    repeat (first | (with_reducible first | refine Ju.go ?_ | (refine Hd.go ?_; intro K Q hK hQ; simp only [nod_imm, e_not, Bool.not_false, e_cond, if_true, List.getD_cons_succ, List.getD_cons_zero, Try.underlying30, e_eql, decide_true, nod_ints, nd_no, Try.underlying3, e_len, List.length_nil, Int.cast_ofNat_Int, e_gT, cond_true, j_one]; subst hK hQ) | refine Jr.go ?_) | refine sd ?_)
    refine call_of (c15x _) ?_
    repeat (first | (with_reducible first | refine Ju.go ?_ | (refine Hd.go ?_; intro K Q hK hQ; simp only [nod_imm]; subst hK hQ) | refine Jr.go ?_) | refine sd ?_)
    exact end1 (fzI _)
   ·rw [hT] at c9
    rw [if_pos rfl]
    repeat (first | (with_reducible first | refine Ju.go ?_ | (refine Hd.go ?_; intro K Q hK hQ; simp only [nod_tup, List.map_cons, nod2_ints, nd_no, nod2_imm, List.map_nil, e_x20, e_x21, List.getD_cons_zero, nod_imm, List.getD_cons_succ, nod_arr]; subst hK hQ) | refine Jr.go ?_) | refine sd ?_)
    refine call_of c4 ?_
    repeat (first | (with_reducible first | refine Ju.go ?_ | (refine Hd.go ?_; intro K Q hK hQ; simp only [nod_imm, e_not, Bool.not_true, List.getD_cons_zero, List.getD_cons_succ, e_cond, Bool.false_eq_true, if_false, Try.underlying30, e_neq, decide_true, e_gF, cond_false, j_one, nod_arr, nd_no, nod_ints]; subst hK hQ) | refine Jr.go ?_) | refine sd ?_)
    refine call_of c5 ?_
    repeat (first | (with_reducible first | refine Ju.go ?_ | (refine Hd.go ?_; intro K Q hK hQ; simp only [nod_ints, nd_no]; subst hK hQ) | refine Jr.go ?_) | refine sd ?_)
    refine call_of cA ?_
    repeat (first | (with_reducible first | refine Ju.go ?_ | (refine Hd.go ?_; intro K Q hK hQ; simp only [nod_imm, e_not, Bool.not_true, List.getD_cons_zero, List.getD_cons_succ, nod_arr, nd_no, Try.underlying4, e_gF, cond_false]; subst hK hQ) | refine Jr.go ?_) | refine sd ?_)
    refine call_of c6 ?_
    repeat (first | (with_reducible first | refine Ju.go ?_ | (refine Hd.go ?_; intro K Q hK hQ; simp only [nod_imm, e_bne, beq_self_eq_true, Bool.not_true, List.getD_cons_zero, List.getD_cons_succ, e_cond, Bool.false_eq_true, if_false, nod_arr, nd_no]; subst hK hQ) | refine Jr.go ?_) | refine sd ?_)
    refine call_of c7 ?_
    repeat (first | (with_reducible first | refine Ju.go ?_ | (refine Hd.go ?_; intro K Q hK hQ; simp only [List.getD_cons_succ, List.getD_cons_zero, nod_arr, nd_no, nod_ints]; subst hK hQ) | refine Jr.go ?_) | refine sd ?_)
    refine call_of c8 ?_
    repeat (first | (with_reducible first | refine Ju.go ?_ | (refine Hd.go ?_; intro K Q hK hQ; simp only [List.getD_cons_zero, nod_imm, nod_arr, nd_no]; subst hK hQ) | refine Jr.go ?_) | refine sd ?_)
    refine call_of c9 ?_
    repeat (first | (with_reducible first | refine Ju.go ?_ | (refine Hd.go ?_; intro K Q hK hQ; simp only [nod_imm, e_not, Bool.not_true, e_cond, Bool.false_eq_true, if_false, List.getD_cons_succ, List.getD_cons_zero, Try.underlying30, e_eql, decide_true, nod_ints, nd_no, e_gT, cond_true]; subst hK hQ) | refine Jr.go ?_) | refine sd ?_)
    refine call_of cB ?_
    repeat (first | (with_reducible first | refine Ju.go ?_ | (refine Hd.go ?_; intro K Q hK hQ; simp only [nod_imm, e_gT, cond_true]; subst hK hQ) | refine Jr.go ?_) | refine sd ?_)
    refine call_of (c15x _) ?_
    repeat (first | (with_reducible first | refine Ju.go ?_ | (refine Hd.go ?_; intro K Q hK hQ; simp only [nod_imm]; subst hK hQ) | refine Jr.go ?_) | refine sd ?_)
    exact end1 (fzI _)
 ·repeat (first | (with_reducible first | refine Ju.go ?_ | (refine Hd.go ?_; intro K Q hK hQ; simp only [if_true]; subst hK hQ) | refine Jr.go ?_) | refine sd ?_)
  refine call_of (c15x _) ?_
  repeat (first | (with_reducible first | refine Ju.go ?_ | (refine Hd.go ?_; intro K Q hK hQ; simp only []; subst hK hQ) | refine Jr.go ?_) | refine sd ?_)
  exact end1 (fzI _)
open Go.ChangeShapes Go.WideShapes Go.ChangeAt Go.RowKit
theorem own : ownKnob Try.prog.godebug = none := by kernel_rfl
theorem laidOut : laidOutB Try.prog = true := by kernel_rfl
set_option maxRecDepth 100000 in
theorem lifted (os : Os) (started : os.Started) (H : Type) (enc : TypeId × Value → H) :
    ReturnsInHanded {} Try.checked os 12 .any (Rows.streamPlansSpec.pre6 enc Try.prog Try.f12 Rows.streamPlansRow.domain false) (Rows.streamPlansSpec.post enc Try.prog Try.f12 false true false false) := by
  refine returnsInHanded_of_change (C := Try.checked) own started (by kernel_rfl) Try.func12
    (ChangeSpec.witness6 (enc := enc) (C := Try.checked) false ⟨#[], #[.int .i64 0, .slice none 0 0], []⟩ 8 (by kernel_rfl) (by kernel_rfl) (by kernel_rfl) (by kernel_rfl)) ?_
  intro W base args ds gs before hval0 hW hcnd _
  have hval : ∀ (j : Nat) t v, Try.f12.params[j]? = some t → args[j]? = some v → Value.okWide Try.prog W .any base t v := hval0
  have hW' := hW
  obtain ⟨p, q, hA0, hV, rfl, hfz, hnd⟩ := hW
  have hA : DataW.TrodAll enc Try.prog W 0 (fun _ => true) true Try.f12.params.toList args.toList ds p := hA0
  rw [Try.params12] at hA hval
  obtain ⟨v0, vs0, d0, ds0, p0, q0, hargs, rfl, rfl, h0, r0⟩ := trodAll_cons hA
  obtain ⟨v1, vs1, d1, ds1, p1, q1, rfl, rfl, rfl, h1, r1⟩ := trodAll_cons r0
  obtain ⟨rfl, rfl, rfl⟩ := trodAll_nil r1
  obtain rfl : args = #[v0, v1] := by cases args; simp_all
  obtain ⟨rfl, rfl⟩ := trodVars_none hV
  have lt0 : ∀ x ∈ p0, x.block < W.heap.size := by obtain ⟨m, hm⟩ := h0; exact DataW.trod_lt m _ _ _ hm
  obtain ⟨n0, e0, w0⟩ := in_int Try.underlying3 (hval 0 _ v0 rfl rfl) h0
  have lt1 : ∀ x ∈ p1, x.block < W.heap.size := by obtain ⟨m, hm⟩ := h1; exact DataW.trod_lt m _ _ _ hm
  obtain ⟨l1, w1, e1⟩ := in_jobs (hval 1 _ v1 rfl rfl) h1
  clear hA0 hval0
  refine (bridge (args := [I n0, .arr (l1.map jbV) .no]) (ra := #[v0, v1]) (c12 n0 l1 [] w1) rfl (by intro a ha; simp at ha; rcases ha with rfl | rfl <;> rfl) (fun i => ?_)).mono fun e W' ⟨he, bel⟩ => ?_
  · match i with
    | 0 => exact e0
    | 1 => exact e1
    | i + 2 => exact .junk _
  · subst he
    exact ⟨_, rfl, _, _, _, [], _, [], hW', trodAll_mk1 (shut_bool Try.underlying4 _), (trodAll_cons_mk (Below.trod laidOut (by kernel_rfl) (of_decide_eq_true (by kernel_rfl)) h0 bel lt0) (trodAll_cons_mk (Below.trod laidOut (by kernel_rfl) (of_decide_eq_true (by kernel_rfl)) h1 bel lt1) trodAll_mk0)), rfl, bel.frame _, fun h => by cases h⟩
theorem over : Rows.streamPlansRow.holds Try.pinned (OpenSpec.ofChange Rows.streamPlansSpec) :=
 OpenClaim.holds_of_wide 12 Try.f12 rfl rfl rfl rfl rfl rfl rfl ⟨rfl, rfl, rfl, rfl, rfl⟩ rfl rfl rfl rfl rfl (by kernel_rfl) Try.func12 (by kernel_rfl)
  (of_decide_eq_true (by kernel_rfl)) (by unfold Func.isWrapper; first | (rw [if_pos (by decide +kernel)]; kernel_rfl) | (rw [if_neg (by decide +kernel)]; exact ⟨rfl, rfl⟩))
  (fun os started H enc _ => lifted os started H enc)
theorem streamPlans_holds : Rows.StreamPlansSaid := over
#print axioms streamPlans_holds
end Go.Proofs.Ytlnjhnemmemloaa
