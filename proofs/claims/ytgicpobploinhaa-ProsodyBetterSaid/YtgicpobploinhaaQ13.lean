/- The theorem of breaks: true for every input. -/
import Derived.Test.YtgicpobploinhaaP6
import Derived.Test.YtgicpobploinhaaProg
import Derived.Test.YtgicpobploinhaaRows
set_option linter.unusedVariables false
set_option maxRecDepth 20000
set_option maxHeartbeats 4000000
namespace Go.Proofs.Ytgicpobploinhaa
open Go Go.Ab Go.Proofs
def an13 : An := { imm := [], jn := [(2, [0, 1, 2, 28]), (4, [0, 1, 2, 7, 8, 9]), (6, [0, 1, 2, 7, 8, 9, 10, 11, 12, 13]), (7, [1, 2, 7, 8, 9, 10, 11, 12, 13, 14, 15, 16]), (8, [1, 2, 7, 8, 10, 14, 15, 98]), (12, [2, 7, 8, 10, 14, 15, 17, 18]), (17, [8, 10, 14, 15, 17])], lp := [(11, [2, 7, 8, 10, 14, 15, 17, 18])], loud := [154], ord := [] }
def vc13 (C : Cb) (a0 a1 a2 : V) (H : Hp) (R : List V → Hp → Prop) : Prop :=
 Jn (fun l1 H2 =>
 aCond (l1.getD 3 .junk).nod (
 C.callE 15 [] H2 fun v4 H5 =>
 R [v4] H5) (
 Jn (fun l6 H7 =>
 C.callE 39 [(l6.getD 0 .junk).nod.nod, (l6.getD 1 .junk).nod.nod, (l6.getD 2 .junk).nod.nod] H7 fun v9 H10 =>
 C.aExt 0 v9.nod.nod fun v11 =>
 C.aExt 1 v9.nod.nod fun v12 =>
 Jn (fun l13 H14 =>
 Jn (fun l16 H17 =>
 Jn (fun l19 H20 =>
 aCond (l19.getD 7 .junk).nod (
 R [(B false)] H20) (
 C.aLen (l19.getD 0 .junk).nod.nod fun v22 =>
 C.aBin (Try.prog.underlying 3) .sub v22.nod (I 1) fun v23 =>
 LoopA (fun l24 H25 K26 =>
 C.aBin (Try.prog.underlying 3) .geq (l24.getD 7 .junk).nod.nod (I 0) fun v27 =>
 aCond v27.nod (
 Jn (fun l28 H29 =>
 C.aBin (Try.prog.underlying 3) .sub (l28.getD 7 .junk).nod.nod (I 1) fun v31 =>
 K26 [(l28.getD 0 .junk), (l28.getD 1 .junk), (l28.getD 2 .junk), (l28.getD 3 .junk), (l28.getD 4 .junk), (l28.getD 5 .junk), (l28.getD 6 .junk), v31] H29)
 (fun R30 =>
 C.aIx 1 (l24.getD 3 .junk).nod.nod (l24.getD 7 .junk).nod.nod fun v32 =>
 C.aLd 1 false false v32.nod H25 fun v33 H34 =>
 C.aIx 1 (l24.getD 2 .junk).nod.nod (l24.getD 7 .junk).nod.nod fun v35 =>
 C.aLd 1 false false v35.nod H34 fun v36 H37 =>
 C.aBin (Try.prog.underlying 3) .neq v33.nod v36.nod fun v38 =>
 aCond v38.nod (
 R30 [(l24.getD 0 .junk), (l24.getD 1 .junk), (l24.getD 2 .junk), (l24.getD 3 .junk), (l24.getD 4 .junk), (l24.getD 5 .junk), (l24.getD 7 .junk).nod, (l24.getD 7 .junk)] H37) (
 R30 [(l24.getD 0 .junk), (l24.getD 1 .junk), (l24.getD 2 .junk), (l24.getD 3 .junk), (l24.getD 4 .junk), (l24.getD 5 .junk), (l24.getD 6 .junk), (l24.getD 7 .junk)] H37))) (
 Jn (fun l39 H40 =>
 C.aBin (Try.prog.underlying 3) .eql (l39.getD 2 .junk).nod.nod (l39.getD 4 .junk).nod.nod fun v42 =>
 Jv (fun v43 H44 =>
 Jv (fun v54 H55 =>
 Jv (fun v58 H59 =>
 R [v58] H59)
 (fun R60 =>
 aG v54.nod true (
 C.call 15 [] H55 fun v61 H62 =>
 R60 v61.nod H62) (
 R60 (B false) H55)))
 (fun R56 =>
 aG v43.nod true (
 C.aBin (Try.prog.underlying 3) .gtr (l39.getD 3 .junk).nod.nod (I 0) fun v57 =>
 R56 v57.nod H44) (
 R56 (B false) H44)))
 (fun R45 =>
 aG v42.nod true (
 C.aIx 1 (l39.getD 1 .junk).nod.nod (l39.getD 4 .junk).nod.nod fun v46 =>
 C.aLd 1 false false v46.nod H40 fun v47 H48 =>
 C.aIx 1 (l39.getD 0 .junk).nod.nod (l39.getD 4 .junk).nod.nod fun v49 =>
 C.aLd 1 false false v49.nod H48 fun v50 H51 =>
 C.aBin (Try.prog.underlying 3) .sub v47.nod v50.nod fun v52 =>
 C.aBin (Try.prog.underlying 3) .eql (l39.getD 3 .junk).nod.nod v52.nod fun v53 =>
 R45 v53.nod H51) (
 R45 (B false) H40)))
 (fun R41 =>
 C.aBin (Try.prog.underlying 3) .lss (l24.getD 6 .junk).nod.nod (I 0) fun v63 =>
 aCond v63.nod (
 C.aBin (Try.prog.underlying 3) .eql (l24.getD 4 .junk).nod.nod (I (-1)) fun v64 =>
 Jv (fun v65 H66 =>
 Jv (fun v69 H70 =>
 Jv (fun v75 H76 =>
 R [v75] H76)
 (fun R77 =>
 aG v69.nod true (
 C.callE 15 [] H70 fun v78 H79 =>
 R77 v78.nod H79) (
 R77 (B false) H70)))
 (fun R71 =>
 aG v65.nod true (
 C.callE 44 [(l24.getD 0 .junk).nod.nod, (l24.getD 1 .junk).nod.nod] H66 fun v72 H73 =>
 C.aUn .not v72.nod fun v74 =>
 R71 v74.nod H73) (
 R71 (B false) H66)))
 (fun R67 =>
 aG v64.nod true (
 C.aBin (Try.prog.underlying 3) .eql (l24.getD 5 .junk).nod.nod (I 0) fun v68 =>
 R67 v68.nod H25) (
 R67 (B false) H25))) (
 R41 [(l24.getD 2 .junk), (l24.getD 3 .junk), (l24.getD 4 .junk), (l24.getD 5 .junk), (l24.getD 6 .junk)] H25))))
 [(l19.getD 1 .junk), (l19.getD 2 .junk), (l19.getD 3 .junk), (l19.getD 4 .junk), (l19.getD 5 .junk), (l19.getD 6 .junk), (I (-1)), v23] H20))
 (fun R21 =>
 C.aBin (Try.prog.underlying 28) .neq (l16.getD 4 .junk).nod.nod (I 0) fun v80 =>
 Jv (fun v81 H82 =>
 Jv (fun v85 H86 =>
 Jv (fun v89 H90 =>
 Jv (fun v93 H94 =>
 Jv (fun v99 H100 =>
 Jv (fun v105 H106 =>
 Jv (fun v111 H112 =>
 R21 [(l16.getD 0 .junk), (l16.getD 1 .junk), (l16.getD 2 .junk), (l16.getD 3 .junk), (l16.getD 5 .junk), (l16.getD 9 .junk), (l16.getD 10 .junk), v111] H112)
 (fun R113 =>
 aG v105.nod false (
 C.callE 44 [(l16.getD 5 .junk).nod.nod, (l16.getD 3 .junk).nod.nod] H106 fun v114 H115 =>
 R113 v114.nod H115) (
 R113 (B true) H106)))
 (fun R107 =>
 aG v99.nod false (
 C.aLen (l16.getD 3 .junk).nod.nod fun v108 =>
 C.aLen (l16.getD 0 .junk).nod.nod fun v109 =>
 C.aBin (Try.prog.underlying 3) .neq v108.nod v109.nod fun v110 =>
 R107 v110.nod H100) (
 R107 (B true) H100)))
 (fun R101 =>
 aG v93.nod false (
 C.aLen (l16.getD 5 .junk).nod.nod fun v102 =>
 C.aLen (l16.getD 0 .junk).nod.nod fun v103 =>
 C.aBin (Try.prog.underlying 3) .neq v102.nod v103.nod fun v104 =>
 R101 v104.nod H94) (
 R101 (B true) H94)))
 (fun R95 =>
 aG v89.nod false (
 C.callE 25 [(l16.getD 3 .junk).nod.nod, (l16.getD 7 .junk).nod.nod] H90 fun v96 H97 =>
 C.aUn .not v96.nod fun v98 =>
 R95 v98.nod H97) (
 R95 (B true) H90)))
 (fun R91 =>
 aG v85.nod false (
 C.aBin (Try.prog.underlying 28) .neq (l16.getD 11 .junk).nod.nod (I 0) fun v92 =>
 R91 v92.nod H86) (
 R91 (B true) H86)))
 (fun R87 =>
 aG v81.nod false (
 C.aBin (Try.prog.underlying 28) .neq (l16.getD 8 .junk).nod.nod (I 0) fun v88 =>
 R87 v88.nod H82) (
 R87 (B true) H82)))
 (fun R83 =>
 aG v80.nod false (
 C.aBin (Try.prog.underlying 28) .neq (l16.getD 6 .junk).nod.nod (I 0) fun v84 =>
 R83 v84.nod H17) (
 R83 (B true) H17))))
 (fun R18 =>
 C.callE 42 [(l13.getD 0 .junk).nod.nod, (l13.getD 1 .junk).nod.nod, (l13.getD 3 .junk).nod.nod, (l13.getD 2 .junk).nod.nod] H14 fun v116 H117 =>
 C.aExt 0 v116.nod.nod fun v118 =>
 C.aExt 1 v116.nod.nod fun v119 =>
 C.aExt 2 v116.nod.nod fun v120 =>
 R18 [(l13.getD 1 .junk), (l13.getD 2 .junk), (l13.getD 3 .junk), (l13.getD 4 .junk), (l13.getD 5 .junk), (l13.getD 6 .junk), (l13.getD 7 .junk), (l13.getD 8 .junk), (l13.getD 9 .junk), v118, v119, v120] H117))
 (fun R15 =>
 C.callE 39 [(l6.getD 0 .junk).nod.nod, (l6.getD 1 .junk).nod.nod, (l6.getD 3 .junk).nod.nod] H10 fun v121 H122 =>
 C.aExt 0 v121.nod.nod fun v123 =>
 C.aExt 1 v121.nod.nod fun v124 =>
 R15 [(l6.getD 0 .junk), (l6.getD 1 .junk), (l6.getD 2 .junk), (l6.getD 3 .junk), (l6.getD 4 .junk), (l6.getD 5 .junk), v11, v12, v123, v124] H122))
 (fun R8 =>
 C.callE 26 [(l1.getD 0 .junk).nod.nod, (l1.getD 1 .junk).nod.nod] H2 fun v125 H126 =>
 C.aExt 0 v125.nod.nod fun v127 =>
 C.aExt 1 v125.nod.nod fun v128 =>
 C.aExt 2 v125.nod.nod fun v129 =>
 R8 [(l1.getD 0 .junk), (l1.getD 1 .junk), (l1.getD 2 .junk), v127, v128, v129] H126)))
 (fun R3 =>
 C.aLen a0.nod.nod fun v130 =>
 C.aBin (Try.prog.underlying 3) .gtr v130.nod (I 40) fun v131 =>
 Jv (fun v132 H133 =>
 R3 [a0, a1, a2, v132] H133)
 (fun R134 =>
 aG v131.nod false (
 C.callE 40 [a0.nod.nod, a1.nod.nod, a2.nod.nod] H fun v135 H136 =>
 C.aUn .not v135.nod fun v137 =>
 R134 v137.nod H136) (
 R134 (B true) H)))
theorem wf13 : (Nat.ble 3 Try.f13.ntmps && wfC an13 Try.f13.ntmps (Try.f13.body.getD .skip)) = true := by kernel_rfl
theorem tie13 (C : Cb) (a0 a1 a2 : V) (H : Hp) (R : List V → Hp → Prop) : wpG Try.prog C an13 (Try.f13.body.getD .skip) (argF [a0, a1, a2]) H (retG Try.prog C Try.f13 R) (fun _ _ _ => False) (retG Try.prog C Try.f13 R) = vc13 C a0 a1 a2 H R := by kernel_rfl
theorem mk13 (a0 a1 a2 : V) {H : Hp} {v : V} {H1 : Hp} (hd : v.Nd) (hn : H.length ≤ H1.length) (hb : H1 = H ∨ ∀ (b : Nat) (blk : Blk), H1[b]? = some blk → H[b]? = some blk ∨ BelB H1.length blk) (h : vc13 (real Try.prog) a0 a1 a2 H (retF v H1)) : Ret Try.prog 13 [a0, a1, a2] H v H1 :=
 ret_mk (an := an13) hm Try.call13 Try.func13 rfl wf13 hd hn hb (Eq.mpr (tie13 (real Try.prog) a0 a1 a2 H (retF v H1)) h)
theorem mkE13 (a0 a1 a2 : V) {H : Hp} {Q : V → Hp → Prop} (h : vc13 (real Try.prog) a0 a1 a2 H (retW Q)) : RetE Try.prog 13 [a0, a1, a2] H Q :=
 retE_mk (an := an13) hm Try.call13 Try.func13 rfl wf13 (Eq.mpr (tie13 (real Try.prog) a0 a1 a2 H (retW Q)) h)
theorem mko13 (a0 a1 a2 : V) {H : Hp} {xs : List V} {H1 : Hp} (hn : H.length ≤ H1.length) (hb : H1 = H ∨ ∀ (b : Nat) (blk : Blk), H1[b]? = some blk → H[b]? = some blk ∨ BelB H1.length blk) (h : vc13 (real Try.prog) a0 a1 a2 H (retO xs H1)) : Ret Try.prog 13 [a0, a1, a2] H (.arr xs .own) H1 :=
 ret_mko (an := an13) (t := 6) hm Try.call13 Try.func13 rfl wf13 rfl hn hb (Eq.mpr (tie13 (real Try.prog) a0 a1 a2 H (retO xs H1)) h)
end Go.Proofs.Ytgicpobploinhaa
set_option linter.unusedSimpArgs false
set_option linter.unnecessarySimpa false
set_option maxHeartbeats 2000000
namespace Go.Proofs.Ytgicpobploinhaa
open Go Go.Ab Go.Proofs
attribute [local congr] g_bin g_nilS g_nilP g_un g_ext g_bx g_fa g_ld g_st g_ix g_ixA g_slc g_mk g_bs g_bd g_nc g_cv g_len g_lenT g_app g_appB g_cpy g_mm g_call g_callG g_calm g_calmG g_range g_res g_pick g_cond g_loop g_Jv g_eqS g_eqP g_fd g_ixT g_ta g_lkp g_upd g_mkM g_appS g_inv g_callE g_callEG g_invE g_zr g_wr
theorem c13 (ws : List Wd) (rs : List Rk) (o : List Int) (H : Hp) (w0 : ws.length ≤ 9223372036854775807) (w1 : rs.length ≤ 9223372036854775807) (w2 : o.length ≤ 9223372036854775807) : Ret Try.prog 13 [.arr (ws.map wdV) .no, .arr (rs.map rkV) .no, ints o .no] H (B true) H := by
 refine mk13 _ _ _ rfl (Nat.le_refl _) (.inl rfl) ?_
 simp only [vc13, real]
 repeat (first | (with_reducible first | refine Ju.go ?_ | (refine Hd.go ?_; intro K Q hK hQ; simp only [nod_arr, nd_no, e_lenA, List.length_map, nod_imm, Try.underlying3, e_gtr, nod_ints, e_gF]; subst hK hQ) | refine Jr.go ?_) | refine sd ?_)
 generalize hR : Rn _ = R
 have kn : R [.arr (ws.map wdV) .no, .arr (rs.map rkV) .no, ints o .no, B true] H := by
  subst hR
  repeat (first | (with_reducible first | refine Ju.go ?_ | (refine Hd.go ?_; intro K Q hK hQ; simp only [List.getD_cons_succ, List.getD_cons_zero, nod_imm, e_cond, if_true]; subst hK hQ) | refine Jr.go ?_) | refine sd ?_)
  refine call_of (c15 _) ?_
  repeat (first | (with_reducible first | refine Ju.go ?_ | (refine Hd.go ?_; intro K Q hK hQ; simp only []; subst hK hQ) | refine Jr.go ?_) | refine sd ?_)
  exact end1 (fzI _)
 have key : okWs ws = true → okRs rs = true → okBr o ws.length = true → R [.arr (ws.map wdV) .no, .arr (rs.map rkV) .no, ints o .no, B false] H := by
  intro hw hr hb
  clear kn
  subst hR
  have hbb := bB_ok ws rs
  have hrl := (okRs_p hr).1
  have hwl := (okWs_p hw).1
  have hbl := (okBr_iff.1 hbb).1
  have hol := (okBr_iff.1 hb).1
  obtain ⟨-, hm, hf⟩ := best ws rs hw hr
  have hm1 := hm o hb
  have hf1 := hf o hb
  have c1 := c26' ws rs H w0 w1
  have c2 := c39 ws rs o H w0 w1 w2
  have c3 := c39 ws rs (bB ws rs) H w0 w1 (by omega)
  have c4 := c42 ws rs (bB ws rs) o H w0 w1 (by omega) w2
  unfold brV at c1
  unfold viV at c2 c3
  unfold cmV at c4
  rw [hw, hr] at c1 c2 c3 c4
  rw [hb] at c2
  rw [hbb] at c3
  rw [hb, hbb] at c4
  simp only [Bool.and_self, if_true] at c1 c2 c3 c4
  have hu := vios_len ws o rs
  have hv := vios_len ws (bB ws rs) rs
  have ru := @vios_rng ws o rs hw hr hb
  have rv := @vios_rng ws (bB ws rs) rs hw hr hbb
  clear hm hf hbb hb
  generalize vios ws o rs = u at *
  generalize vios ws (bB ws rs) rs = v at *
  generalize bB ws rs = b at *
  have c5 := c25 v v .no .no H (by omega) (.inl rfl) (.inl rfl)
  have c6 := c44 u v H (by omega) (by omega)
  have c7 := c44 o b H (by omega) (by omega)
  rw [decide_eq_true rfl] at c5
  rw [hm1] at c6
  have du : decide ((u.length : Int) = rs.length) = true := decide_eq_true (by omega)
  have dv : decide ((v.length : Int) = rs.length) = true := decide_eq_true (by omega)
  have r0 : R64 ((rs.length : Int) - 1) := by unfold R64; omega
  repeat (first | (with_reducible first | refine Ju.go ?_ | (refine Hd.go ?_; intro K Q hK hQ; simp only [List.getD_cons_succ, List.getD_cons_zero, nod_imm, e_cond, Bool.false_eq_true, if_false, nod_arr, nd_no]; subst hK hQ) | refine Jr.go ?_) | refine sd ?_)
  refine call_of c1 ?_
  repeat (first | (with_reducible first | refine Ju.go ?_ | (refine Hd.go ?_; intro K Q hK hQ; simp only [nod_tup, List.map_cons, nod2_ints, nd_no, nod2_imm, List.map_nil, e_x30, e_x31, e_x32, List.getD_cons_zero, List.getD_cons_succ, nod_arr, nod_ints]; subst hK hQ) | refine Jr.go ?_) | refine sd ?_)
  refine call_of c2 ?_
  repeat (first | (with_reducible first | refine Ju.go ?_ | (refine Hd.go ?_; intro K Q hK hQ; simp only [nod_tup, List.map_cons, nod2_ints, nd_no, nod2_imm, List.map_nil, e_x20, e_x21, List.getD_cons_zero, nod_arr, List.getD_cons_succ, nod_ints]; subst hK hQ) | refine Jr.go ?_) | refine sd ?_)
  refine call_of c3 ?_
  repeat (first | (with_reducible first | refine Ju.go ?_ | (refine Hd.go ?_; intro K Q hK hQ; simp only [nod_tup, List.map_cons, nod2_ints, nd_no, nod2_imm, List.map_nil, e_x20, e_x21, List.getD_cons_zero, List.getD_cons_succ, nod_arr, nod_ints]; subst hK hQ) | refine Jr.go ?_) | refine sd ?_)
  refine call_of c4 ?_
  unfold cmR
  rw [cmI_symm]
  cases hc : cmI rs.length u v with
  | none =>
   have hall := cmI_all hc
   have euv : u = v := ext_getD (by omega) fun j hj => hall j (by omega)
   rw [hf1 euv] at c7
   simp only
   repeat (first | (with_reducible first | refine Ju.go ?_ | (refine Hd.go ?_; intro K Q hK hQ; simp only [Int.reduceNeg, nod_tup, List.map_cons, nod2_imm, List.map_nil, e_x30, e_x31, e_x32, List.getD_cons_succ, List.getD_cons_zero, nod_imm, e_neq, decide_true, Bool.not_true, e_gF, cond_false, j_one, nod_ints, nd_no]; subst hK hQ) | refine Jr.go ?_) | refine sd ?_)
   refine call_of c5 ?_
   repeat (first | (with_reducible first | refine Ju.go ?_ | (refine Hd.go ?_; intro K Q hK hQ; simp only [nod_imm, e_not, Bool.not_true, Int.reduceNeg, List.getD_cons_succ, List.getD_cons_zero, nod_ints, nd_no, nod_arr, Try.underlying3, e_lenA, List.length_map, e_len, e_neq, du, e_gF, cond_false, j_one, dv]; subst hK hQ) | refine Jr.go ?_) | refine sd ?_)
   refine call_of c6 ?_
   repeat (first | (with_reducible first | refine Ju.go ?_ | (refine Hd.go ?_; intro K Q hK hQ; simp only [nod_imm, Int.reduceNeg, List.getD_cons_zero, List.getD_cons_succ, e_cond, Bool.false_eq_true, if_false, nod_arr, nd_no, e_lenA, List.length_map, Try.underlying3, e_sub, r0, true_and]; subst hK hQ) | refine Jr.go ?_) | refine sd ?_)
   refine loop_of (fun j : Nat => j ≤ rs.length) (fun j => [ints o .no, ints b .no, ints v .no, ints u .no, I (-1), I 0, I (optI (gP (neB u v) rs.length j) (-1)), I ((j : Int) - 1)]) (fun _ => H) (fun j => j) rs.length (Nat.le_refl _) (by rw [gP_end]; rfl) rfl ?_
   intro j hj
   repeat (first | (with_reducible first | refine Ju.go ?_ | (refine Hd.go ?_; intro K Q hK hQ; simp only [Int.reduceNeg, List.getD_cons_succ, List.getD_cons_zero, nod_imm, Try.underlying3, e_geq, e_cond, decide_eq_true_eq]; subst hK hQ) | refine Jr.go ?_) | refine sd ?_)
   cases j with
   | succ k =>
    have ek : ((k + 1 : Nat) : Int) - 1 = k := by omega
    have dk : (0 : Int) ≤ k := by omega
    have d1 : (k : Int) < u.length := by omega
    have d2 : (k : Int) < v.length := by omega
    have d3 : k < u.length := by omega
    have d4 : k < v.length := by omega
    have r2 : R64 ((k : Int) - 1) := by unfold R64; omega
    by_cases he : u.getD k 0 = v.getD k 0
    ·have e1 : neB u v k = false := by unfold neB; rw [decide_eq_true he]; rfl
     have e2 := gP_miss (n := rs.length) e1
     rw [ek]
     repeat (first | (with_reducible first | refine Ju.go ?_ | (refine Hd.go ?_; intro K Q hK hQ; simp only [dk, if_true, Int.reduceNeg, List.getD_cons_succ, List.getD_cons_zero, nod_ints, nd_no, nod_imm, e_ix, d1, Int.toNat_natCast, he, true_and, nod_cptr, e_ldc, d2, Try.underlying3, e_neq, decide_true, Bool.not_true, e_cond, Bool.false_eq_true, if_false, e_sub, r2]; subst hK hQ) | refine Jr.go ?_) | refine sd ?_)
     exact ⟨k, by omega, by rw [e2]; rfl, rfl, by omega⟩
    ·have e1 : neB u v k = true := by unfold neB; rw [decide_eq_false he]; rfl
     have e2 := gP_hit (n := rs.length) (by omega) e1
     rw [ek]
     repeat (first | (with_reducible first | refine Ju.go ?_ | (refine Hd.go ?_; intro K Q hK hQ; simp only [dk, if_true, Int.reduceNeg, List.getD_cons_succ, List.getD_cons_zero, nod_ints, nd_no, nod_imm, e_ix, d1, Int.toNat_natCast, true_and, nod_cptr, e_ldc, d2, Try.underlying3, e_neq, he, decide_false, Bool.not_false, e_cond, e_sub, r2]; subst hK hQ) | refine Jr.go ?_) | refine sd ?_)
     exact ⟨k, by omega, by rw [e2]; rfl, rfl, by omega⟩
   | zero =>
    have dk : ¬ (0 : Int) ≤ 0 - 1 := by decide
    rw [gP_cm, hc]
    have dm : optI none (-1) = -1 := rfl
    have dn : (-1 : Int) < 0 := by decide
    repeat (first | (with_reducible first | refine Ju.go ?_ | (refine Hd.go ?_; intro K Q hK hQ; simp only [Int.cast_ofNat_Int, dk, if_false, Int.reduceNeg, dm, List.getD_cons_succ, List.getD_cons_zero, nod_imm, Try.underlying3, e_lss, dn, decide_true, e_cond, if_true, e_eql, e_gT, cond_true, j_one, nod_ints, nd_no]; subst hK hQ) | refine Jr.go ?_) | refine sd ?_)
    refine call_of c7 ?_
    repeat (first | (with_reducible first | refine Ju.go ?_ | (refine Hd.go ?_; intro K Q hK hQ; simp only [nod_imm, e_not, Bool.not_false, e_gT, cond_true]; subst hK hQ) | refine Jr.go ?_) | refine sd ?_)
    refine call_of (c15 _) ?_
    repeat (first | (with_reducible first | refine Ju.go ?_ | (refine Hd.go ?_; intro K Q hK hQ; simp only [nod_imm]; subst hK hQ) | refine Jr.go ?_) | refine sd ?_)
    exact end1 (fzI _)
  | some i =>
   simp only
   repeat (first | (with_reducible first | refine Ju.go ?_ | (refine Hd.go ?_; intro K Q hK hQ; simp only [nod_tup, List.map_cons, nod2_imm, List.map_nil, e_x30, e_x31, e_x32, List.getD_cons_succ, List.getD_cons_zero, nod_imm, e_neq, decide_true, Bool.not_true, e_gF, cond_false, j_one, nod_ints, nd_no]; subst hK hQ) | refine Jr.go ?_) | refine sd ?_)
   refine call_of c5 ?_
   repeat (first | (with_reducible first | refine Ju.go ?_ | (refine Hd.go ?_; intro K Q hK hQ; simp only [nod_imm, e_not, Bool.not_true, List.getD_cons_succ, List.getD_cons_zero, nod_ints, nd_no, nod_arr, Try.underlying3, e_lenA, List.length_map, e_len, e_neq, du, e_gF, cond_false, j_one, dv]; subst hK hQ) | refine Jr.go ?_) | refine sd ?_)
   refine call_of c6 ?_
   repeat (first | (with_reducible first | refine Ju.go ?_ | (refine Hd.go ?_; intro K Q hK hQ; simp only [nod_imm, List.getD_cons_zero, List.getD_cons_succ, e_cond, Bool.false_eq_true, if_false, nod_arr, nd_no, e_lenA, List.length_map, Try.underlying3, e_sub, r0, true_and]; subst hK hQ) | refine Jr.go ?_) | refine sd ?_)
   refine loop_of (fun j : Nat => j ≤ rs.length) (fun j => [ints o .no, ints b .no, ints v .no, ints u .no, I i, I (u.getD i 0 - v.getD i 0), I (optI (gP (neB u v) rs.length j) (-1)), I ((j : Int) - 1)]) (fun _ => H) (fun j => j) rs.length (Nat.le_refl _) (by rw [gP_end]; rfl) rfl ?_
   intro j hj
   repeat (first | (with_reducible first | refine Ju.go ?_ | (refine Hd.go ?_; intro K Q hK hQ; simp only [Int.reduceNeg, List.getD_cons_succ, List.getD_cons_zero, nod_imm, Try.underlying3, e_geq, e_cond, decide_eq_true_eq]; subst hK hQ) | refine Jr.go ?_) | refine sd ?_)
   cases j with
   | succ k =>
    have ek : ((k + 1 : Nat) : Int) - 1 = k := by omega
    have dk : (0 : Int) ≤ k := by omega
    have d1 : (k : Int) < u.length := by omega
    have d2 : (k : Int) < v.length := by omega
    have d3 : k < u.length := by omega
    have d4 : k < v.length := by omega
    have r2 : R64 ((k : Int) - 1) := by unfold R64; omega
    by_cases he : u.getD k 0 = v.getD k 0
    ·have e1 : neB u v k = false := by unfold neB; rw [decide_eq_true he]; rfl
     have e2 := gP_miss (n := rs.length) e1
     rw [ek]
     repeat (first | (with_reducible first | refine Ju.go ?_ | (refine Hd.go ?_; intro K Q hK hQ; simp only [dk, if_true, Int.reduceNeg, List.getD_cons_succ, List.getD_cons_zero, nod_ints, nd_no, nod_imm, e_ix, d1, Int.toNat_natCast, he, true_and, nod_cptr, e_ldc, d2, Try.underlying3, e_neq, decide_true, Bool.not_true, e_cond, Bool.false_eq_true, if_false, e_sub, r2]; subst hK hQ) | refine Jr.go ?_) | refine sd ?_)
     exact ⟨k, by omega, by rw [e2]; rfl, rfl, by omega⟩
    ·have e1 : neB u v k = true := by unfold neB; rw [decide_eq_false he]; rfl
     have e2 := gP_hit (n := rs.length) (by omega) e1
     rw [ek]
     repeat (first | (with_reducible first | refine Ju.go ?_ | (refine Hd.go ?_; intro K Q hK hQ; simp only [dk, if_true, Int.reduceNeg, List.getD_cons_succ, List.getD_cons_zero, nod_ints, nd_no, nod_imm, e_ix, d1, Int.toNat_natCast, true_and, nod_cptr, e_ldc, d2, Try.underlying3, e_neq, he, decide_false, Bool.not_false, e_cond, e_sub, r2]; subst hK hQ) | refine Jr.go ?_) | refine sd ?_)
     exact ⟨k, by omega, by rw [e2]; rfl, rfl, by omega⟩
   | zero =>
    have dk : ¬ (0 : Int) ≤ 0 - 1 := by decide
    rw [gP_cm, hc]
    have dm : optI (some i) (-1) = (i : Int) := rfl
    have di : ¬ (i : Int) < 0 := by omega
    obtain ⟨k1, k2, k3⟩ := cmI_is hc
    have h1 := ru k1
    have h2 := rv k1
    have d1 : (i : Int) < u.length := by omega
    have d2 : (i : Int) < v.length := by omega
    have d3 : i < u.length := by omega
    have d4 : i < v.length := by omega
    have r3 : R64 (u.getD i 0 - v.getD i 0) := by unfold R64; omega
    have hgt : 0 < u.getD i 0 - v.getD i 0 := by
     rw [lexL_at (by omega) d3 (take_eq (by omega) (Nat.le_of_lt d3) k3) k2, decide_eq_false_iff_not] at hm1
     omega
    repeat (first | (with_reducible first | refine Ju.go ?_ | (refine Hd.go ?_; intro K Q hK hQ; simp only [Int.cast_ofNat_Int, dk, if_false, Int.reduceNeg, dm, List.getD_cons_succ, List.getD_cons_zero, nod_imm, Try.underlying3, e_lss, di, decide_false, e_cond, Bool.false_eq_true, e_eql, decide_true, nod_ints, nd_no, e_ix, d2, Int.toNat_natCast, nod_cptr, e_ldc, true_and, d1, e_sub, r3, e_gT, cond_true, j_side, j_one, e_gtr, hgt]; subst hK hQ) | refine Jr.go ?_) | refine sd ?_)
    refine call_ofD (c15 _) ?_
    repeat (first | (with_reducible first | refine Ju.go ?_ | (refine Hd.go ?_; intro K Q hK hQ; simp only [nod_imm]; subst hK hQ) | refine Jr.go ?_) | refine sd ?_)
    exact end1 (fzI _)
 by_cases h4 : 40 < (ws.length : Int)
 ·repeat (first | (with_reducible first | refine Ju.go ?_ | (refine Hd.go ?_; intro K Q hK hQ; simp only [h4, decide_true, cond_true]; subst hK hQ) | refine Jr.go ?_) | refine sd ?_)
  exact kn
 ·repeat (first | (with_reducible first | refine Ju.go ?_ | (refine Hd.go ?_; intro K Q hK hQ; simp only [h4, decide_false, cond_false]; subst hK hQ) | refine Jr.go ?_) | refine sd ?_)
  refine call_of (c40 ws rs o H w0 w1 w2) ?_
  cases hok : (okWs ws && okRs rs && okBr o ws.length)
  ·repeat (first | (with_reducible first | refine Ju.go ?_ | (refine Hd.go ?_; intro K Q hK hQ; simp only [nod_imm, e_not, Bool.not_false]; subst hK hQ) | refine Jr.go ?_) | refine sd ?_)
   exact kn
  ·rw [Bool.and_eq_true, Bool.and_eq_true] at hok
   repeat (first | (with_reducible first | refine Ju.go ?_ | (refine Hd.go ?_; intro K Q hK hQ; simp only [nod_imm, e_not, Bool.not_true]; subst hK hQ) | refine Jr.go ?_) | refine sd ?_)
   exact key hok.1.1 hok.1.2 hok.2
open Go.ChangeShapes Go.WideShapes Go.ChangeAt Go.RowKit
theorem own : ownKnob Try.prog.godebug = none := by kernel_rfl
theorem laidOut : laidOutB Try.prog = true := by kernel_rfl
set_option maxRecDepth 100000 in
theorem lifted (os : Os) (started : os.Started) (H : Type) (enc : TypeId × Value → H) :
    ReturnsInHanded {} Try.checked os 13 .any (Rows.prosodyBetterSpec.pre6 enc Try.prog Try.f13 Rows.prosodyBetterRow.domain false) (Rows.prosodyBetterSpec.post enc Try.prog Try.f13 false true false false) := by
  refine returnsInHanded_of_change (C := Try.checked) own started (by kernel_rfl) Try.func13
    (ChangeSpec.witness6 (enc := enc) (C := Try.checked) false ⟨#[], #[.slice none 0 0, .slice none 0 0, .slice none 0 0], []⟩ 8 (by kernel_rfl) (by kernel_rfl) (by kernel_rfl) (by kernel_rfl)) ?_
  intro W base args ds gs before hval0 hW hcnd _
  have hval : ∀ (j : Nat) t v, Try.f13.params[j]? = some t → args[j]? = some v → Value.okWide Try.prog W .any base t v := hval0
  have hW' := hW
  obtain ⟨p, q, hA0, hV, rfl, hfz, hnd⟩ := hW
  have hA : DataW.TrodAll enc Try.prog W 0 (fun _ => true) true Try.f13.params.toList args.toList ds p := hA0
  rw [Try.params13] at hA hval
  obtain ⟨v0, vs0, d0, ds0, p0, q0, hargs, rfl, rfl, h0, r0⟩ := trodAll_cons hA
  obtain ⟨v1, vs1, d1, ds1, p1, q1, rfl, rfl, rfl, h1, r1⟩ := trodAll_cons r0
  obtain ⟨v2, vs2, d2, ds2, p2, q2, rfl, rfl, rfl, h2, r2⟩ := trodAll_cons r1
  obtain ⟨rfl, rfl, rfl⟩ := trodAll_nil r2
  obtain rfl : args = #[v0, v1, v2] := by cases args; simp_all
  obtain ⟨rfl, rfl⟩ := trodVars_none hV
  have lt0 : ∀ x ∈ p0, x.block < W.heap.size := by obtain ⟨m, hm⟩ := h0; exact DataW.trod_lt m _ _ _ hm
  obtain ⟨l0, w0, e0⟩ := in_words (hval 0 _ v0 rfl rfl) h0
  have lt1 : ∀ x ∈ p1, x.block < W.heap.size := by obtain ⟨m, hm⟩ := h1; exact DataW.trod_lt m _ _ _ hm
  obtain ⟨l1, w1, e1⟩ := in_ranks (hval 1 _ v1 rfl rfl) h1
  have lt2 : ∀ x ∈ p2, x.block < W.heap.size := by obtain ⟨m, hm⟩ := h2; exact DataW.trod_lt m _ _ _ hm
  obtain ⟨l2, w2, e2⟩ := in_is (hval 2 _ v2 rfl rfl) h2
  clear hA0 hval0
  refine (bridge (args := [.arr (l0.map wdV) .no, .arr (l1.map rkV) .no, ints l2 .no]) (ra := #[v0, v1, v2]) (c13 l0 l1 l2 [] w0 w1 w2) rfl (by intro a ha; simp at ha; rcases ha with rfl | rfl | rfl <;> rfl) (fun i => ?_)).mono fun e W' ⟨he, bel⟩ => ?_
  · match i with
    | 0 => exact e0
    | 1 => exact e1
    | 2 => exact e2
    | i + 3 => exact .junk _
  · subst he
    exact ⟨_, rfl, _, _, _, [], _, [], hW', trodAll_mk1 (shut_bool Try.underlying4 _), (trodAll_cons_mk (Below.trod laidOut (by kernel_rfl) (of_decide_eq_true (by kernel_rfl)) h0 bel lt0) (trodAll_cons_mk (Below.trod laidOut (by kernel_rfl) (of_decide_eq_true (by kernel_rfl)) h1 bel lt1) (trodAll_cons_mk (Below.trod laidOut (by kernel_rfl) (of_decide_eq_true (by kernel_rfl)) h2 bel lt2) trodAll_mk0))), rfl, bel.frame _, fun h => by cases h⟩
theorem over : Rows.prosodyBetterRow.holds Try.pinned (OpenSpec.ofChange Rows.prosodyBetterSpec) :=
 OpenClaim.holds_of_wide 13 Try.f13 rfl rfl rfl rfl rfl rfl rfl ⟨rfl, rfl, rfl, rfl, rfl⟩ rfl rfl rfl rfl rfl (by kernel_rfl) Try.func13 (by kernel_rfl)
  (of_decide_eq_true (by kernel_rfl)) (by unfold Func.isWrapper; first | (rw [if_pos (by decide +kernel)]; kernel_rfl) | (rw [if_neg (by decide +kernel)]; exact ⟨rfl, rfl⟩))
  (fun os started H enc _ => lifted os started H enc)
theorem prosodyBetter_holds : Rows.ProsodyBetterSaid := over
#print axioms prosodyBetter_holds
end Go.Proofs.Ytgicpobploinhaa
