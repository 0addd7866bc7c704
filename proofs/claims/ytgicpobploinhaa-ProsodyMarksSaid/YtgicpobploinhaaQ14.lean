/- The marks of any sentence, or the error: true for every input. -/
import Derived.Test.YtgicpobploinhaaP6
import Derived.Test.YtgicpobploinhaaProg
import Derived.Test.YtgicpobploinhaaRows
set_option linter.unusedVariables false
set_option maxRecDepth 20000
set_option maxHeartbeats 4000000
namespace Go.Proofs.Ytgicpobploinhaa
open Go Go.Ab Go.Proofs
def an14 : An := { imm := [], jn := [(2, [0, 1, 2, 19]), (5, [0, 1, 2, 7, 8, 44]), (7, [0, 1, 7, 8, 9]), (8, [0, 1, 7, 9, 67]), (12, [0, 1, 7, 9, 10, 11]), (14, [0, 1, 7, 9, 10, 11, 82])], lp := [(11, [0, 1, 7, 9, 10, 11])], loud := [], ord := [] }
def vc14 (C : Cb) (a0 a1 a2 : V) (H : Hp) (R : List V → Hp → Prop) : Prop :=
 Jn (fun l1 H2 =>
 aCond (l1.getD 3 .junk).nod (
 C.callE 15 [] H2 fun v4 H5 =>
 R [v4] H5) (
 C.callE 45 [(l1.getD 0 .junk).nod.nod, (l1.getD 1 .junk).nod.nod, (l1.getD 2 .junk).nod.nod] H2 fun v6 H7 =>
 C.aExt 0 v6.nod.nod fun v8 =>
 C.aExt 1 v6.nod.nod fun v9 =>
 Jn (fun l10 H11 =>
 aCond (l10.getD 5 .junk).nod (
 C.aBin (Try.prog.underlying 28) .eql (l10.getD 4 .junk).nod.nod (I 2) fun v13 =>
 Jv (fun v14 H15 =>
 Jv (fun v19 H20 =>
 R [v19] H20)
 (fun R21 =>
 aG v14.nod true (
 C.callE 15 [] H15 fun v22 H23 =>
 R21 v22.nod H23) (
 R21 (B false) H15)))
 (fun R16 =>
 aG v13.nod true (
 C.aLen (l10.getD 3 .junk).nod.nod fun v17 =>
 C.aBin (Try.prog.underlying 3) .eql v17.nod (I 0) fun v18 =>
 R16 v18.nod H11) (
 R16 (B false) H11))) (
 Jn (fun l24 H25 =>
 Jn (fun l27 H28 =>
 aCond (l27.getD 4 .junk).nod (
 R [(B false)] H28) (
 LoopA (fun l30 H31 K32 =>
 C.aLen (l30.getD 2 .junk).nod.nod fun v33 =>
 C.aBin (Try.prog.underlying 3) .lss (l30.getD 5 .junk).nod.nod v33.nod fun v34 =>
 aCond v34.nod (
 Jn (fun l35 H36 =>
 C.aBin (Try.prog.underlying 3) .add (l35.getD 5 .junk).nod.nod (I 1) fun v38 =>
 K32 [(l35.getD 0 .junk), (l35.getD 1 .junk), (l35.getD 2 .junk), (l35.getD 3 .junk), (l35.getD 4 .junk), v38] H36)
 (fun R37 =>
 Jn (fun l39 H40 =>
 aCond (l39.getD 6 .junk).nod (
 R [(B false)] H40) (
 C.aIx 3 (l39.getD 2 .junk).nod.nod (l39.getD 5 .junk).nod.nod fun v42 =>
 C.aFA 2 1 false v42.nod fun v43 =>
 C.aLd 1 false false v43.nod H40 fun v44 H45 =>
 C.aBin (Try.prog.underlying 87) .geq v44.nod (I 3) fun v46 =>
 aCond v46.nod (
 C.aBin (Try.prog.underlying 3) .add (l39.getD 4 .junk).nod.nod (I 1) fun v47 =>
 R37 [(l39.getD 0 .junk), (l39.getD 1 .junk), (l39.getD 2 .junk), (l39.getD 3 .junk), v47, (l39.getD 5 .junk)] H45) (
 R37 [(l39.getD 0 .junk), (l39.getD 1 .junk), (l39.getD 2 .junk), (l39.getD 3 .junk), (l39.getD 4 .junk), (l39.getD 5 .junk)] H45)))
 (fun R41 =>
 C.aIx 3 (l30.getD 2 .junk).nod.nod (l30.getD 5 .junk).nod.nod fun v48 =>
 C.aLd 3 true false v48.nod H31 fun v49 H50 =>
 C.aIx 3 (l30.getD 3 .junk).nod.nod (l30.getD 5 .junk).nod.nod fun v51 =>
 C.aLd 3 true false v51.nod H50 fun v52 H53 =>
 C.aEqS 89 .neq v49.nod v52.nod fun v54 =>
 R41 [(l30.getD 0 .junk), (l30.getD 1 .junk), (l30.getD 2 .junk), (l30.getD 3 .junk), (l30.getD 4 .junk), (l30.getD 5 .junk), v54] H53))) (
 C.aLen (l30.getD 0 .junk).nod.nod fun v55 =>
 C.callE 47 [(l30.getD 1 .junk).nod.nod, v55.nod, (I 1)] H31 fun v56 H57 =>
 C.aLen v56.nod fun v58 =>
 C.aBin (Try.prog.underlying 3) .eql (l30.getD 4 .junk).nod.nod v58.nod fun v59 =>
 Jv (fun v60 H61 =>
 Jv (fun v66 H67 =>
 R [v66] H67)
 (fun R68 =>
 aG v60.nod true (
 C.callE 15 [] H61 fun v69 H70 =>
 R68 v69.nod H70) (
 R68 (B false) H61)))
 (fun R62 =>
 aG v59.nod true (
 C.aLen (l30.getD 2 .junk).nod.nod fun v63 =>
 C.aBin (Try.prog.underlying 3) .mul (I 2) (l30.getD 4 .junk).nod.nod fun v64 =>
 C.aBin (Try.prog.underlying 3) .leq v63.nod v64.nod fun v65 =>
 R62 v65.nod H57) (
 R62 (B false) H57))))
 [(l27.getD 0 .junk), (l27.getD 1 .junk), (l27.getD 2 .junk), (l27.getD 3 .junk), (I 0), (I 0)] H28))
 (fun R29 =>
 C.aBin (Try.prog.underlying 28) .neq (l24.getD 3 .junk).nod.nod (I 0) fun v71 =>
 Jv (fun v72 H73 =>
 R29 [(l24.getD 0 .junk), (l24.getD 1 .junk), (l24.getD 2 .junk), (l24.getD 4 .junk), v72] H73)
 (fun R74 =>
 aG v71.nod false (
 C.aLen (l24.getD 2 .junk).nod.nod fun v75 =>
 C.aLen (l24.getD 4 .junk).nod.nod fun v76 =>
 C.aBin (Try.prog.underlying 3) .neq v75.nod v76.nod fun v77 =>
 R74 v77.nod H25) (
 R74 (B true) H25))))
 (fun R26 =>
 C.callE 46 [(l10.getD 0 .junk).nod.nod, (l10.getD 1 .junk).nod.nod, (l10.getD 2 .junk).nod.nod] H11 fun v78 H79 =>
 R26 [(l10.getD 0 .junk), (l10.getD 1 .junk), (l10.getD 3 .junk), (l10.getD 4 .junk), v78] H79)))
 (fun R12 =>
 C.callE 27 [(l1.getD 0 .junk).nod.nod] H7 fun v80 H81 =>
 C.aUn .not v80.nod fun v82 =>
 Jv (fun v83 H84 =>
 Jv (fun v89 H90 =>
 Jv (fun v93 H94 =>
 R12 [(l1.getD 0 .junk), (l1.getD 1 .junk), (l1.getD 2 .junk), v8, v9, v93] H94)
 (fun R95 =>
 aG v89.nod false (
 C.aBin (Try.prog.underlying 3) .gtr (l1.getD 2 .junk).nod.nod (I 4) fun v96 =>
 R95 v96.nod H90) (
 R95 (B true) H90)))
 (fun R91 =>
 aG v83.nod false (
 C.aBin (Try.prog.underlying 3) .lss (l1.getD 2 .junk).nod.nod (I 1) fun v92 =>
 R91 v92.nod H84) (
 R91 (B true) H84)))
 (fun R85 =>
 aG v82.nod false (
 C.callE 43 [(l1.getD 0 .junk).nod.nod, (l1.getD 1 .junk).nod.nod] H81 fun v86 H87 =>
 C.aUn .not v86.nod fun v88 =>
 R85 v88.nod H87) (
 R85 (B true) H81)))))
 (fun R3 =>
 C.aLen a0.nod.nod fun v97 =>
 C.aBin (Try.prog.underlying 3) .gtr v97.nod (I 70) fun v98 =>
 Jv (fun v99 H100 =>
 R3 [a0, a1, a2, v99] H100)
 (fun R101 =>
 aG v98.nod false (
 C.aLen a1.nod.nod fun v102 =>
 C.aBin (Try.prog.underlying 3) .gtr v102.nod (I 70) fun v103 =>
 R101 v103.nod H) (
 R101 (B true) H)))
theorem wf14 : (Nat.ble 3 Try.f14.ntmps && wfC an14 Try.f14.ntmps (Try.f14.body.getD .skip)) = true := by kernel_rfl
theorem tie14 (C : Cb) (a0 a1 a2 : V) (H : Hp) (R : List V → Hp → Prop) : wpG Try.prog C an14 (Try.f14.body.getD .skip) (argF [a0, a1, a2]) H (retG Try.prog C Try.f14 R) (fun _ _ _ => False) (retG Try.prog C Try.f14 R) = vc14 C a0 a1 a2 H R := by kernel_rfl
theorem mk14 (a0 a1 a2 : V) {H : Hp} {v : V} {H1 : Hp} (hd : v.Nd) (hn : H.length ≤ H1.length) (hb : H1 = H ∨ ∀ (b : Nat) (blk : Blk), H1[b]? = some blk → H[b]? = some blk ∨ BelB H1.length blk) (h : vc14 (real Try.prog) a0 a1 a2 H (retF v H1)) : Ret Try.prog 14 [a0, a1, a2] H v H1 :=
 ret_mk (an := an14) hm Try.call14 Try.func14 rfl wf14 hd hn hb (Eq.mpr (tie14 (real Try.prog) a0 a1 a2 H (retF v H1)) h)
theorem mkE14 (a0 a1 a2 : V) {H : Hp} {Q : V → Hp → Prop} (h : vc14 (real Try.prog) a0 a1 a2 H (retW Q)) : RetE Try.prog 14 [a0, a1, a2] H Q :=
 retE_mk (an := an14) hm Try.call14 Try.func14 rfl wf14 (Eq.mpr (tie14 (real Try.prog) a0 a1 a2 H (retW Q)) h)
theorem mko14 (a0 a1 a2 : V) {H : Hp} {xs : List V} {H1 : Hp} (hn : H.length ≤ H1.length) (hb : H1 = H ∨ ∀ (b : Nat) (blk : Blk), H1[b]? = some blk → H[b]? = some blk ∨ BelB H1.length blk) (h : vc14 (real Try.prog) a0 a1 a2 H (retO xs H1)) : Ret Try.prog 14 [a0, a1, a2] H (.arr xs .own) H1 :=
 ret_mko (an := an14) (t := 6) hm Try.call14 Try.func14 rfl wf14 rfl hn hb (Eq.mpr (tie14 (real Try.prog) a0 a1 a2 H (retO xs H1)) h)
end Go.Proofs.Ytgicpobploinhaa
set_option linter.unusedSimpArgs false
set_option linter.unnecessarySimpa false
set_option maxHeartbeats 2000000
namespace Go.Proofs.Ytgicpobploinhaa
open Go Go.Ab Go.Proofs
attribute [local congr] g_bin g_nilS g_nilP g_un g_ext g_bx g_fa g_ld g_st g_ix g_ixA g_slc g_mk g_bs g_bd g_nc g_cv g_len g_lenT g_app g_appB g_cpy g_mm g_call g_callG g_calm g_calmG g_range g_res g_pick g_cond g_loop g_Jv g_eqS g_eqP g_fd g_ixT g_ta g_lkp g_upd g_mkM g_appS g_inv g_callE g_callEG g_invE g_zr g_wr
theorem lv89 : lvT Try.prog 10000 89 = some [.int, .int, .int] := by kernel_rfl
theorem gd89 : Try.prog.eqGuardType Try.prog.depth 89 = false := by kernel_rfl
theorem eq89n {K : V → Prop} (x y : Sy3) : aEqS Try.prog 89 .neq (syV x) (syV y) K = K (B (!decide (x = y))) := by
 refine propext ⟨fun ⟨ls, r, h1, h2, h3, h4⟩ => ?_, fun h => ⟨_, _, lv89, lf35 x y, gd89, h⟩⟩
 obtain rfl : ls = _ := Option.some.inj (h1.symm.trans lv89)
 obtain rfl : r = _ := Option.some.inj (h2.symm.trans (lf35 x y))
 exact h4
def endB (x : Sy3) : Bool := decide (3 ≤ x.t)
def endN (l : List Sy3) : Nat := (l.filter endB).length
theorem endN_app (l m : List Sy3) : endN (l ++ m) = endN l + endN m := by unfold endN; rw [List.filter_append, List.length_append]
theorem endN_s (l : List Sy3) {i : Nat} (h : i < l.length) : endN (l.take (i + 1)) = if 3 ≤ (l.getD i default).t then endN (l.take i) + 1 else endN (l.take i) := by
 rw [take_snocA l default h, endN_app]
 unfold endN endB
 split
 ·rename_i h3
  rw [List.filter_cons_of_pos (by exact decide_eq_true h3)]; rfl
 ·rename_i h3
  rw [List.filter_cons_of_neg (by rw [decide_eq_false h3]; decide)]; rfl
theorem endN_le (l : List Sy3) : endN l ≤ l.length := List.length_filter_le ..
theorem laP_rng (n : Nat) (b : List Int) (act : Int) (p : Nat × Nat) : 3 ≤ laP n b act p := by
 unfold laP
 repeat (first | omega | split)
theorem mks_end (ws : List Wd) (b : List Int) (act : Int) (ps : List (Nat × Nat)) : endN (mks ws b act ps) = ps.length := by
 unfold mks
 induction ps with
 | nil => rfl
 | cons p ps ih =>
  rw [List.flatMap_cons, endN_app, endN_app, ih]
  have h1 : endN (mkA ws p) = 0 := by
   unfold mkA
   split
   ·unfold endN
    rw [List.filter_cons_of_neg]
    ·rfl
    ·unfold endB
     rw [decide_eq_false]
     ·decide
     ·show ¬ 3 ≤ (if _ then (2 : Int) else 1)
      split <;> omega
   ·rfl
  have h2 : endN [mkE ws b act p] = 1 := by
   unfold endN
   rw [List.filter_cons_of_pos]
   ·rfl
   ·exact decide_eq_true (laP_rng ws.length b act p)
  rw [h1, h2, List.length_cons]
  omega
theorem c14 (ws : List Wd) (b : List Int) (act : Int) (H : Hp) (w0 : ws.length ≤ 9223372036854775807) (w1 : b.length ≤ 9223372036854775807) : Ret Try.prog 14 [.arr (ws.map wdV) .no, ints b .no, I act] H (B true) H := by
 refine mk14 _ _ _ rfl (Nat.le_refl _) (.inl rfl) ?_
 simp only [vc14, real]
 repeat (first | (with_reducible first | refine Ju.go ?_ | (refine Hd.go ?_; intro K Q hK hQ; simp only [nod_arr, nd_no, e_lenA, List.length_map, nod_imm, Try.underlying3, e_gtr, nod_ints, e_len, e_gF, j_or', j_one, List.getD_cons_succ, List.getD_cons_zero, e_cond]; subst hK hQ) | refine Jr.go ?_) | refine sd ?_)
 split
 ·refine call_of (c15 _) ?_
  repeat (first | (with_reducible first | refine Ju.go ?_ | (refine Hd.go ?_; intro K Q hK hQ; simp only []; subst hK hQ) | refine Jr.go ?_) | refine sd ?_)
  exact end1 (fzI _)
 ·refine call_of (c45 ws b act H w0 w1) ?_
  have c1 := c27 ws H w0
  have c2 := c43 ws b H w0 w1
  unfold mrV
  cases hok : (okWs ws && okBr b ws.length && (decide (1 ≤ act) && decide (act ≤ 4)))
  ·have e1 : (!okWs ws || !okBr b ws.length || decide (act < 1) || decide (4 < act)) = true := by
    rw [show decide (act < 1) = !decide (1 ≤ act) by rw [← decide_not, decide_eq_decide]; omega, show decide (4 < act) = !decide (act ≤ 4) by rw [← decide_not, decide_eq_decide]; omega, Bool.or_assoc, ← Bool.not_and, ← Bool.not_and, ← Bool.not_and, hok]; rfl
   rw [if_neg (by decide)]
   repeat (first | (with_reducible first | refine Ju.go ?_ | (refine Hd.go ?_; intro K Q hK hQ; simp only [nod_tup, List.map_cons, nod2_imm, List.map_nil, e_x20, e_x21, List.getD_cons_zero, nod_arr, nd_no]; subst hK hQ) | refine Jr.go ?_) | refine sd ?_)
   refine call_of c1 ?_
   repeat (first | (with_reducible first | refine Ju.go ?_ | (refine Hd.go ?_; intro K Q hK hQ; simp only [nod_imm, e_not, List.getD_cons_zero, nod_arr, nd_no, List.getD_cons_succ, nod_ints, e_gF]; subst hK hQ) | refine Jr.go ?_) | refine sd ?_)
   refine jo_n c2 ?_
   repeat (first | (with_reducible first | refine Ju.go ?_ | (refine Hd.go ?_; intro K Q hK hQ; simp only [nod_imm, List.getD_cons_succ, List.getD_cons_zero, Try.underlying3, e_lss, e_gF, j_or', j_one, e_gtr, e1, nod2_arr, Fl.nd, e_cond, if_true, e_eql, decide_true, nod_arr, e_lenA, List.length_nil, Int.cast_ofNat_Int, e_gT, cond_true]; subst hK hQ) | refine Jr.go ?_) | refine sd ?_)
   refine call_of (c15 _) ?_
   repeat (first | (with_reducible first | refine Ju.go ?_ | (refine Hd.go ?_; intro K Q hK hQ; simp only [nod_imm]; subst hK hQ) | refine Jr.go ?_) | refine sd ?_)
   exact end1 (fzI _)
  ·rw [if_pos rfl]
   rw [Bool.and_eq_true, Bool.and_eq_true, Bool.and_eq_true, decide_eq_true_eq, decide_eq_true_eq] at hok
   obtain ⟨⟨hw, hb⟩, ha1, ha2⟩ := hok
   obtain ⟨hwl, hwm⟩ := okWs_p hw
   have hb2 := hb
   unfold okBr at hb2
   rw [Bool.and_eq_true, decide_eq_true_eq] at hb2
   have hbl := hb2.1
   rw [hw] at c1
   rw [hb] at c2
   have d1 : ¬ act < 1 := by omega
   have d2 : ¬ 4 < act := by omega
   repeat (first | (with_reducible first | refine Ju.go ?_ | (refine Hd.go ?_; intro K Q hK hQ; simp only [nod_tup, List.map_cons, nod2_imm, List.map_nil, e_x20, e_x21, List.getD_cons_zero, nod_arr, nd_no]; subst hK hQ) | refine Jr.go ?_) | refine sd ?_)
   refine call_of c1 ?_
   repeat (first | (with_reducible first | refine Ju.go ?_ | (refine Hd.go ?_; intro K Q hK hQ; simp only [nod_imm, e_not, Bool.not_true, List.getD_cons_zero, nod_arr, nd_no, List.getD_cons_succ, nod_ints, e_gF, cond_false]; subst hK hQ) | refine Jr.go ?_) | refine sd ?_)
   refine call_of c2 ?_
   repeat (first | (with_reducible first | refine Ju.go ?_ | (refine Hd.go ?_; intro K Q hK hQ; simp only [nod_imm, e_not, Bool.not_true, List.getD_cons_succ, List.getD_cons_zero, Try.underlying3, e_lss, d1, decide_false, e_gF, cond_false, j_one, e_gtr, d2, e_cond, Bool.false_eq_true, if_false, nod_arr, nd_no, nod_ints]; subst hK hQ) | refine Jr.go ?_) | refine sd ?_)
   refine call_of (c46 ws b act H hw hb ⟨ha1, ha2⟩) ?_
   have hml := mks_len ws b act (phs b 1 ws.length)
   have hme := mks_end ws b act (phs b 1 ws.length)
   have hpl := phs_len b 1 ws.length
   have c3 := c47 b ws.length 1 H (by omega) hbl
   generalize mks ws b act (phs b 1 ws.length) = x at *
   generalize phs b 1 ws.length = ps at *
   repeat (first | (with_reducible first | refine Ju.go ?_ | (refine Hd.go ?_; intro K Q hK hQ; simp only [nod2_arr, Fl.nd, List.getD_cons_zero, List.getD_cons_succ, nod_imm, e_neq, decide_true, Bool.not_true, nod_arr, Try.underlying3, e_lenA, List.length_map, e_gF, cond_false, j_one, e_cond, Bool.false_eq_true, if_false]; subst hK hQ) | refine Jr.go ?_) | refine sd ?_)
   refine loop_of (fun i : Nat => i ≤ x.length) (fun i => [.arr (ws.map wdV) .no, ints b .no, .arr (x.map syV) .no, .arr (x.map syV) .no, I (endN (x.take i) : Nat), I i]) (fun _ => H) (fun i => x.length - i) 0 (Nat.zero_le _) rfl rfl ?_
   intro i hi
   repeat (first | (with_reducible first | refine Ju.go ?_ | (refine Hd.go ?_; intro K Q hK hQ; simp only [List.getD_cons_succ, List.getD_cons_zero, nod_arr, nd_no, e_lenA, List.length_map, nod_imm, Try.underlying3, e_lss, e_cond, decide_eq_true_eq]; subst hK hQ) | refine Jr.go ?_) | refine sd ?_)
   have hel := endN_le (x.take i)
   by_cases hlt : i < x.length
   ·have d : (i : Int) < x.length := by omega
    have hel2 : endN (x.take i) ≤ 120 := by rw [List.length_take] at hel; omega
    have r1 : R64 (((endN (x.take i) : Nat) : Int) + 1) := by unfold R64; omega
    have es := endN_s x hlt
    repeat (first | (with_reducible first | refine Ju.go ?_ | (refine Hd.go ?_; intro K Q hK hQ; simp only [d, if_true, List.getD_cons_succ, List.getD_cons_zero, nod_arr, nd_no, nod_imm, ix_sy, Int.toNat_natCast, true_and, nod_cptr, e_ldcA, lv_cons, List.length_nil, Nat.zero_add, Nat.reduceAdd, nod_agg, List.map_cons, nodL_imm, List.map_nil]; subst hK hQ) | refine Jr.go ?_) | refine sd ?_)
    refine Eq.mpr (eq89n _ _) ?_
    rw [decide_eq_true rfl]
    by_cases h3 : 3 ≤ (x.getD i default).t
    ·rw [if_pos h3] at es
     repeat (first | (with_reducible first | refine Ju.go ?_ | (refine Hd.go ?_; intro K Q hK hQ; simp only [List.getD_cons_zero, List.getD_cons_succ, Bool.not_true, nod_imm, e_cond, Bool.false_eq_true, if_false, nod_arr, nd_no, ix_sy, d, Int.toNat_natCast, true_and, nod_cptr, e_fac, Nat.reduceAdd, lv_cons, List.length_nil, Nat.zero_add, Nat.reduceLeDiff, e_ldc, e_geq, h3, decide_true, if_true, Try.underlying3, e_add, r1]; subst hK hQ) | refine Jr.go ?_) | refine sd ?_)
     exact ⟨i + 1, hlt, by rw [es]; rfl, rfl, by omega⟩
    ·rw [if_neg h3] at es
     repeat (first | (with_reducible first | refine Ju.go ?_ | (refine Hd.go ?_; intro K Q hK hQ; simp only [List.getD_cons_zero, List.getD_cons_succ, Bool.not_true, nod_imm, e_cond, Bool.false_eq_true, if_false, nod_arr, nd_no, ix_sy, d, Int.toNat_natCast, true_and, nod_cptr, e_fac, Nat.reduceAdd, lv_cons, List.length_nil, Nat.zero_add, Nat.reduceLeDiff, e_ldc, e_geq, h3, decide_false, Try.underlying3, e_add]; subst hK hQ) | refine Jr.go ?_) | refine sd ?_)
     exact ⟨i + 1, hlt, by rw [es]; rfl, rfl, by omega⟩
   ·have d : ¬ (i : Int) < x.length := by omega
    obtain rfl : i = x.length := by omega
    rw [List.take_of_length_le (Nat.le_refl _), hme]
    repeat (first | (with_reducible first | refine Ju.go ?_ | (refine Hd.go ?_; intro K Q hK hQ; simp only [d, if_false, List.getD_cons_zero, nod_arr, nd_no, e_lenA, List.length_map, List.getD_cons_succ, nod_ints, nod_imm]; subst hK hQ) | refine Jr.go ?_) | refine sd ?_)
    refine call_of c3 ?_
    have r2 : R64 (2 * (ps.length : Int)) := by unfold R64; omega
    have d3 : (x.length : Int) ≤ 2 * (ps.length : Int) := by omega
    repeat (first | (with_reducible first | refine Ju.go ?_ | (refine Hd.go ?_; intro K Q hK hQ; simp only [nod_arr, nd_no, e_lenA, List.length_map, List.getD_cons_succ, List.getD_cons_zero, nod_imm, Try.underlying3, e_eql, decide_true, e_mul, r2, true_and, e_leq, d3, e_gT, cond_true, j_one]; subst hK hQ) | refine Jr.go ?_) | refine sd ?_)
    refine call_of (c15 _) ?_
    repeat (first | (with_reducible first | refine Ju.go ?_ | (refine Hd.go ?_; intro K Q hK hQ; simp only [nod_imm]; subst hK hQ) | refine Jr.go ?_) | refine sd ?_)
    exact end1 (fzI _)
open Go.ChangeShapes Go.WideShapes Go.ChangeAt Go.RowKit
theorem own : ownKnob Try.prog.godebug = none := by kernel_rfl
theorem laidOut : laidOutB Try.prog = true := by kernel_rfl
set_option maxRecDepth 100000 in
theorem lifted (os : Os) (started : os.Started) (H : Type) (enc : TypeId × Value → H) :
    ReturnsInHanded {} Try.checked os 14 .any (Rows.prosodyMarksSpec.pre6 enc Try.prog Try.f14 Rows.prosodyMarksRow.domain false) (Rows.prosodyMarksSpec.post enc Try.prog Try.f14 false true false false) := by
  refine returnsInHanded_of_change (C := Try.checked) own started (by kernel_rfl) Try.func14
    (ChangeSpec.witness6 (enc := enc) (C := Try.checked) false ⟨#[], #[.slice none 0 0, .slice none 0 0, .int .i64 0], []⟩ 8 (by kernel_rfl) (by kernel_rfl) (by kernel_rfl) (by kernel_rfl)) ?_
  intro W base args ds gs before hval0 hW hcnd _
  have hval : ∀ (j : Nat) t v, Try.f14.params[j]? = some t → args[j]? = some v → Value.okWide Try.prog W .any base t v := hval0
  have hW' := hW
  obtain ⟨p, q, hA0, hV, rfl, hfz, hnd⟩ := hW
  have hA : DataW.TrodAll enc Try.prog W 0 (fun _ => true) true Try.f14.params.toList args.toList ds p := hA0
  rw [Try.params14] at hA hval
  obtain ⟨v0, vs0, d0, ds0, p0, q0, hargs, rfl, rfl, h0, r0⟩ := trodAll_cons hA
  obtain ⟨v1, vs1, d1, ds1, p1, q1, rfl, rfl, rfl, h1, r1⟩ := trodAll_cons r0
  obtain ⟨v2, vs2, d2, ds2, p2, q2, rfl, rfl, rfl, h2, r2⟩ := trodAll_cons r1
  obtain ⟨rfl, rfl, rfl⟩ := trodAll_nil r2
  obtain rfl : args = #[v0, v1, v2] := by cases args; simp_all
  obtain ⟨rfl, rfl⟩ := trodVars_none hV
  have lt0 : ∀ x ∈ p0, x.block < W.heap.size := by obtain ⟨m, hm⟩ := h0; exact DataW.trod_lt m _ _ _ hm
  obtain ⟨l0, w0, e0⟩ := in_words (hval 0 _ v0 rfl rfl) h0
  have lt1 : ∀ x ∈ p1, x.block < W.heap.size := by obtain ⟨m, hm⟩ := h1; exact DataW.trod_lt m _ _ _ hm
  obtain ⟨l1, w1, e1⟩ := in_is (hval 1 _ v1 rfl rfl) h1
  have lt2 : ∀ x ∈ p2, x.block < W.heap.size := by obtain ⟨m, hm⟩ := h2; exact DataW.trod_lt m _ _ _ hm
  obtain ⟨n2, e2, w2⟩ := in_int Try.underlying3 (hval 2 _ v2 rfl rfl) h2
  clear hA0 hval0
  refine (bridge (args := [.arr (l0.map wdV) .no, ints l1 .no, I n2]) (ra := #[v0, v1, v2]) (c14 l0 l1 n2 [] w0 w1) rfl (by intro a ha; simp at ha; rcases ha with rfl | rfl | rfl <;> rfl) (fun i => ?_)).mono fun e W' ⟨he, bel⟩ => ?_
  · match i with
    | 0 => exact e0
    | 1 => exact e1
    | 2 => exact e2
    | i + 3 => exact .junk _
  · subst he
    exact ⟨_, rfl, _, _, _, [], _, [], hW', trodAll_mk1 (shut_bool Try.underlying4 _), (trodAll_cons_mk (Below.trod laidOut (by kernel_rfl) (of_decide_eq_true (by kernel_rfl)) h0 bel lt0) (trodAll_cons_mk (Below.trod laidOut (by kernel_rfl) (of_decide_eq_true (by kernel_rfl)) h1 bel lt1) (trodAll_cons_mk (Below.trod laidOut (by kernel_rfl) (of_decide_eq_true (by kernel_rfl)) h2 bel lt2) trodAll_mk0))), rfl, bel.frame _, fun h => by cases h⟩
theorem over : Rows.prosodyMarksRow.holds Try.pinned (OpenSpec.ofChange Rows.prosodyMarksSpec) :=
 OpenClaim.holds_of_wide 14 Try.f14 rfl rfl rfl rfl rfl rfl rfl ⟨rfl, rfl, rfl, rfl, rfl⟩ rfl rfl rfl rfl rfl (by kernel_rfl) Try.func14 (by kernel_rfl)
  (of_decide_eq_true (by kernel_rfl)) (by unfold Func.isWrapper; first | (rw [if_pos (by decide +kernel)]; kernel_rfl) | (rw [if_neg (by decide +kernel)]; exact ⟨rfl, rfl⟩))
  (fun os started H enc _ => lifted os started H enc)
theorem prosodyMarks_holds : Rows.ProsodyMarksSaid := over
#print axioms prosodyMarks_holds
end Go.Proofs.Ytgicpobploinhaa
