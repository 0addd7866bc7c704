/- The law TractNil of the given program returns true for any feeds, areas and number of steps, and leaves all as they were. No condition. -/
import Derived.Test.YtpielcbpfbajlaaP6
import Derived.Test.YtpielcbpfbajlaaProg
import Derived.Test.YtpielcbpfbajlaaRows
set_option linter.unusedVariables false
set_option maxRecDepth 20000
set_option maxHeartbeats 4000000
namespace Go.Proofs.Ytpielcbpfbajlaa
open Go Go.Ab Go.Proofs
def an14 : An := { imm := [11], jn := [(2, [0, 1, 2, 26]), (10, [0, 1, 2, 9, 10, 11, 12]), (12, [0, 1, 2, 9, 10, 11, 12, 13, 14, 15, 16, 17, 18]), (13, [0, 1, 2, 9, 10, 117])], lp := [(7, [0, 1, 2, 9, 10])], loud := [], ord := [] }
def vc14 (C : Cb) (a0 a1 a2 : V) (H : Hp) (R : List V → Hp → Prop) : Prop :=
 Jn (fun (l1 : List V) (H2 : Hp) =>
 aCond (l1.getD 3 .junk).nod (
 C.callE 17 [] H2 fun (v4 : V) (H5 : Hp) =>
 R [v4] H5) (
 C.aBd [(V.arr [] .full), (V.arr [] .full), (I 0), (I 0), (I 0), (I 0), (V.arr [] .full), (V.arr [] .full), (I 0), (I 0), (I 0)] [] fun (v6 : V) =>
 C.aBx false 11 v6.nod H2 fun (v7 : V) (H8 : Hp) =>
 C.aBS 1 2 (V.imm (.pointer none)) [(0, (V.imm (.pointer none))), (1, v7.nod.nod)] fun (v9 : V) =>
 LoopA (fun (l10 : List V) (H11 : Hp) (K12 : List V → Hp → Prop) =>
 C.aBin (Try.prog.underlying 3) .lss (l10.getD 4 .junk).nod.nod (I 2) fun (v13 : V) =>
 aCond v13.nod (
 Jn (fun (l14 : List V) (H15 : Hp) =>
 C.aIx 1 (l14.getD 3 .junk).nod.nod (l14.getD 4 .junk).nod.nod fun (v17 : V) =>
 C.aLd 1 false false v17.nod H15 fun (v18 : V) (H19 : Hp) =>
 C.callE 39 [v18.nod, (l14.getD 2 .junk).nod.nod] H19 fun (v20 : V) (H21 : Hp) =>
 C.aExt 0 v20.nod.nod fun (v22 : V) =>
 C.aExt 1 v20.nod.nod fun (v23 : V) =>
 Jn (fun (l24 : List V) (H25 : Hp) =>
 Jn (fun (l27 : List V) (H28 : Hp) =>
 aCond (l27.getD 5 .junk).nod (
 R [(B false)] H28) (
 C.aBin (Try.prog.underlying 3) .add (l27.getD 4 .junk).nod.nod (I 1) fun (v30 : V) =>
 K12 [(l27.getD 0 .junk), (l27.getD 1 .junk), (l27.getD 2 .junk), (l27.getD 3 .junk), v30] H28))
 (fun (R29 : List V → Hp → Prop) =>
 C.aBin (Try.prog.underlying 27) .neq (l24.getD 6 .junk).nod.nod (I 1) fun (v31 : V) =>
 Jv (fun (v32 : V) (H33 : Hp) =>
 Jv (fun (v36 : V) (H37 : Hp) =>
 Jv (fun (v43 : V) (H44 : Hp) =>
 Jv (fun (v56 : V) (H57 : Hp) =>
 Jv (fun (v65 : V) (H66 : Hp) =>
 Jv (fun (v74 : V) (H75 : Hp) =>
 R29 [(l24.getD 0 .junk), (l24.getD 1 .junk), (l24.getD 2 .junk), (l24.getD 3 .junk), (l24.getD 4 .junk), v74] H75)
 (fun (R76 : V → Hp → Prop) =>
 aG v65.nod false (
 C.aIx 1 (l24.getD 3 .junk).nod.nod (l24.getD 4 .junk).nod.nod fun (v77 : V) =>
 C.aLd 1 false false v77.nod H66 fun (v78 : V) (H79 : Hp) =>
 C.callE 41 [v78.nod] H79 fun (v80 : V) (H81 : Hp) =>
 C.aBin (Try.prog.underlying 3) .neq v80.nod (I 0) fun (v82 : V) =>
 R76 v82.nod H81) (
 R76 (B true) H66)))
 (fun (R67 : V → Hp → Prop) =>
 aG v56.nod false (
 C.aIx 1 (l24.getD 3 .junk).nod.nod (l24.getD 4 .junk).nod.nod fun (v68 : V) =>
 C.aLd 1 false false v68.nod H57 fun (v69 : V) (H70 : Hp) =>
 C.callE 27 [v69.nod] H70 fun (v71 : V) (H72 : Hp) =>
 C.aBin (Try.prog.underlying 3) .neq v71.nod (I 0) fun (v73 : V) =>
 R67 v73.nod H72) (
 R67 (B true) H57)))
 (fun (R58 : V → Hp → Prop) =>
 aG v43.nod false (
 C.aIx 1 (l24.getD 3 .junk).nod.nod (l24.getD 4 .junk).nod.nod fun (v59 : V) =>
 C.aLd 1 false false v59.nod H44 fun (v60 : V) (H61 : Hp) =>
 C.callE 40 [v60.nod, (l24.getD 1 .junk).nod.nod, (V.arr [] .full)] H61 fun (v62 : V) (H63 : Hp) =>
 C.aBin (Try.prog.underlying 27) .neq v62.nod (I 1) fun (v64 : V) =>
 R58 v64.nod H63) (
 R58 (B true) H44)))
 (fun (R45 : V → Hp → Prop) =>
 aG v36.nod false (
 C.aLen (l24.getD 7 .junk).nod.nod fun (v46 : V) =>
 C.aLen (l24.getD 9 .junk).nod.nod fun (v47 : V) =>
 C.aBin (Try.prog.underlying 3) .add v46.nod v47.nod fun (v48 : V) =>
 C.aLen (l24.getD 10 .junk).nod.nod fun (v49 : V) =>
 C.aBin (Try.prog.underlying 3) .add v48.nod v49.nod fun (v50 : V) =>
 C.aLen (l24.getD 11 .junk).nod.nod fun (v51 : V) =>
 C.aBin (Try.prog.underlying 3) .add v50.nod v51.nod fun (v52 : V) =>
 C.aLen (l24.getD 12 .junk).nod.nod fun (v53 : V) =>
 C.aBin (Try.prog.underlying 3) .add v52.nod v53.nod fun (v54 : V) =>
 C.aBin (Try.prog.underlying 3) .gtr v54.nod (I 0) fun (v55 : V) =>
 R45 v55.nod H37) (
 R45 (B true) H37)))
 (fun (R38 : V → Hp → Prop) =>
 aG v32.nod false (
 C.aLd 2 true false (l24.getD 5 .junk).nod H33 fun (v39 : V) (H40 : Hp) =>
 C.aBd [(I 0), (I 0)] [] fun (v41 : V) =>
 C.aEqS 48 .neq v39.nod v41.nod fun (v42 : V) =>
 R38 v42.nod H40) (
 R38 (B true) H33)))
 (fun (R34 : V → Hp → Prop) =>
 aG v31.nod false (
 C.aBin (Try.prog.underlying 27) .neq (l24.getD 8 .junk).nod.nod (I 1) fun (v35 : V) =>
 R34 v35.nod H25) (
 R34 (B true) H25))))
 (fun (R26 : List V → Hp → Prop) =>
 C.aIx 1 (l14.getD 3 .junk).nod.nod (l14.getD 4 .junk).nod.nod fun (v83 : V) =>
 C.aLd 1 false false v83.nod H21 fun (v84 : V) (H85 : Hp) =>
 C.callE 52 [v84.nod] H85 fun (v86 : V) (H87 : Hp) =>
 C.aExt 0 v86.nod.nod fun (v88 : V) =>
 C.aExt 1 v86.nod.nod fun (v89 : V) =>
 C.aExt 2 v86.nod.nod fun (v90 : V) =>
 C.aExt 3 v86.nod.nod fun (v91 : V) =>
 R26 [(l14.getD 0 .junk), (l14.getD 1 .junk), (l14.getD 2 .junk), (l14.getD 3 .junk), (l14.getD 4 .junk), (l14.getD 5 .junk), (l14.getD 6 .junk), v22, v23, v88, v89, v90, v91] H87))
 (fun (R16 : List V → Hp → Prop) =>
 C.aIx 1 (l10.getD 3 .junk).nod.nod (l10.getD 4 .junk).nod.nod fun (v92 : V) =>
 C.aLd 1 false false v92.nod H11 fun (v93 : V) (H94 : Hp) =>
 C.callE 26 [v93.nod, (l10.getD 0 .junk).nod.nod] H94 fun (v95 : V) (H96 : Hp) =>
 C.aExt 0 v95.nod.nod fun (v97 : V) =>
 C.aExt 1 v95.nod.nod fun (v98 : V) =>
 C.aBx true 2 v97.nod H96 fun (v99 : V) (H100 : Hp) =>
 R16 [(l10.getD 0 .junk), (l10.getD 1 .junk), (l10.getD 2 .junk), (l10.getD 3 .junk), (l10.getD 4 .junk), v99, v98] H100)) (
 C.callE 17 [] H11 fun (v101 : V) (H102 : Hp) =>
 R [v101] H102))
 [(l1.getD 0 .junk), (l1.getD 1 .junk), (l1.getD 2 .junk), v9, (I 0)] H8))
 (fun (R3 : List V → Hp → Prop) =>
 C.aLen a0.nod.nod fun (v103 : V) =>
 C.aBin (Try.prog.underlying 3) .gtr v103.nod (I 100) fun (v104 : V) =>
 Jv (fun (v105 : V) (H106 : Hp) =>
 R3 [a0, a1, a2, v105] H106)
 (fun (R107 : V → Hp → Prop) =>
 aG v104.nod false (
 C.aLen a1.nod.nod fun (v108 : V) =>
 C.aBin (Try.prog.underlying 3) .gtr v108.nod (I 100) fun (v109 : V) =>
 R107 v109.nod H) (
 R107 (B true) H)))
theorem wf14 : (Nat.ble 3 Try.f14.ntmps && wfC an14 Try.f14.ntmps (Try.f14.body.getD .skip)) = true := by kernel_rfl
theorem tie14 (C : Cb) (a0 a1 a2 : V) (H : Hp) (R : List V → Hp → Prop) : wpG Try.prog C an14 (Try.f14.body.getD .skip) (argF [a0, a1, a2]) H (retG Try.prog C Try.f14 R) (fun _ _ _ => False) (retG Try.prog C Try.f14 R) = vc14 C a0 a1 a2 H R := by kernel_rfl
theorem mk14 (a0 a1 a2 : V) {H : Hp} {v : V} {H1 : Hp} (hd : v.Nd) (hn : H.length ≤ H1.length) (hb : H1 = H ∨ ∀ (b : Nat) (blk : Blk), H1[b]? = some blk → H[b]? = some blk ∨ BelB H1.length blk) (h : vc14 (real Try.prog) a0 a1 a2 H (retF v H1)) : Ret Try.prog 14 [a0, a1, a2] H v H1 :=
  ret_mk (an := an14) hm Try.call14 Try.func14 rfl wf14 hd hn hb (Eq.mpr (tie14 (real Try.prog) a0 a1 a2 H (retF v H1)) h)
theorem mkE14 (a0 a1 a2 : V) {H : Hp} {Q : V → Hp → Prop} (h : vc14 (real Try.prog) a0 a1 a2 H (retW Q)) : RetE Try.prog 14 [a0, a1, a2] H Q :=
  retE_mk (an := an14) hm Try.call14 Try.func14 rfl wf14 (Eq.mpr (tie14 (real Try.prog) a0 a1 a2 H (retW Q)) h)
theorem mko14 (a0 a1 a2 : V) {H : Hp} {xs : List V} {H1 : Hp} (hn : H.length ≤ H1.length) (hb : H1 = H ∨ ∀ (b : Nat) (blk : Blk), H1[b]? = some blk → H[b]? = some blk ∨ BelB H1.length blk) (h : vc14 (real Try.prog) a0 a1 a2 H (retO xs H1)) : Ret Try.prog 14 [a0, a1, a2] H (.arr xs .own) H1 :=
  ret_mko (an := an14) (t := 6) hm Try.call14 Try.func14 rfl wf14 rfl hn hb (Eq.mpr (tie14 (real Try.prog) a0 a1 a2 H (retO xs H1)) h)
end Go.Proofs.Ytpielcbpfbajlaa


set_option linter.unusedVariables false
set_option linter.unusedSimpArgs false
set_option linter.unnecessarySimpa false
set_option maxRecDepth 20000
set_option maxHeartbeats 2000000
namespace Go.Proofs.Ytpielcbpfbajlaa
open Go Go.Ab Go.Proofs
attribute [local congr] g_bin g_nilS g_nilP g_un g_ext g_bx g_fa g_ld g_st g_ix g_ixA g_slc g_mk g_bs g_bd g_nc g_cv g_len g_lenT g_app g_appB g_cpy g_mm g_call g_callG g_calm g_calmG g_range g_res g_pick g_cond g_loop g_Jv g_eqS g_eqP g_fd g_ixT g_ta g_lkp g_upd g_mkM g_appS g_inv g_callE g_callEG g_invE g_zr
abbrev zc : List V := [.arr [] .full, .arr [] .full, I 0, I 0, I 0, I 0, .arr [] .full, .arr [] .full, I 0, I 0, I 0]
structure NR (p : V) (H : Hp) : Prop where
  nod : p.nod = p
  r : ∀ L, Ret Try.prog 61 [p] (H ++ L) (B false) (H ++ L)
theorem NR.r0 {p : V} {H : Hp} (h : NR p H) : Ret Try.prog 61 [p] H (B false) H := by simpa using h.r []
theorem c61z (b : Nat) (H : Hp) (hb : H[b]? = some (.cells zc)) : Ret Try.prog 61 [.ptr b 0] H (B false) H := by
  refine mk61 _ rfl (Nat.le_refl _) (.inl rfl) ?_
  simp only [vc61, real]
  repeat (first | (with_reducible first | refine jn_go ?_ | refine ud_go ?_ | refine tr_go ?_ | (refine Hd.go ?_; intro K Q hK hQ; simp only [nod_ptr, Try.underlying41, e_npnP, nod_imm, Try.underlying3, e_ncP, e_fa, Nat.zero_add, ld_at hb, Nat.reduceAdd, lv_cons, List.length_nil, Nat.reduceLeDiff, List.getD_cons_succ, List.getD_cons_zero, nod_arr, nd_full, e_lenA, Int.cast_ofNat_Int, e_gtr, true_and, e_gT, cond_true, j_one]; subst hK hQ) | refine rn_go ?_ | refine rv_go ?_ | refine jv_go ?_) | refine sd ?_)
  exact end1 (fzI _)
theorem NR.z (b : Nat) (H : Hp) (hb : H[b]? = some (.cells zc)) : NR (.ptr b 0) H := ⟨rfl, fun L => c61z b _ (get_app hb)⟩
theorem NR.nil (H : Hp) : NR (.imm (.pointer none)) H := ⟨rfl, fun L => c61n _⟩
theorem c27n {p : V} {H : Hp} (h : NR p H) : Ret Try.prog 27 [p] H (I 0) H := by
  have hn := h.nod
  refine mk27 _ rfl (Nat.le_refl _) (.inl rfl) ?_
  simp only [vc27, real]
  repeat (first | (with_reducible first | refine jn_go ?_ | refine ud_go ?_ | refine tr_go ?_ | (refine Hd.go ?_; intro K Q hK hQ; simp only [hn]; subst hK hQ) | refine rn_go ?_ | refine rv_go ?_ | refine jv_go ?_) | refine sd ?_)
  refine call_of h.r0 ?_
  repeat (first | (with_reducible first | refine jn_go ?_ | refine ud_go ?_ | refine tr_go ?_ | (refine Hd.go ?_; intro K Q hK hQ; simp only [nod_imm, e_not, Bool.not_false, e_cond, if_true]; subst hK hQ) | refine rn_go ?_ | refine rv_go ?_ | refine jv_go ?_) | refine sd ?_)
  exact end1 (fzI _)
theorem c41n {p : V} {H : Hp} (h : NR p H) : Ret Try.prog 41 [p] H (I 0) H := by
  have hn := h.nod
  refine mk41 _ rfl (Nat.le_refl _) (.inl rfl) ?_
  simp only [vc41, real]
  repeat (first | (with_reducible first | refine jn_go ?_ | refine ud_go ?_ | refine tr_go ?_ | (refine Hd.go ?_; intro K Q hK hQ; simp only [hn]; subst hK hQ) | refine rn_go ?_ | refine rv_go ?_ | refine jv_go ?_) | refine sd ?_)
  refine call_of h.r0 ?_
  repeat (first | (with_reducible first | refine jn_go ?_ | refine ud_go ?_ | refine tr_go ?_ | (refine Hd.go ?_; intro K Q hK hQ; simp only [nod_imm, e_not, Bool.not_false, e_cond, if_true]; subst hK hQ) | refine rn_go ?_ | refine rv_go ?_ | refine jv_go ?_) | refine sd ?_)
  exact end1 (fzI _)
theorem c52n {p : V} {H : Hp} (h : NR p H) : Ret Try.prog 52 [p] H (.tup [ints [] .no, ints [] .no, ints [] .no, ints [] .no]) H := by
  have hn := h.nod
  refine mk52 _ rfl (Nat.le_refl _) (.inl rfl) ?_
  simp only [vc52, real]
  repeat (first | (with_reducible first | refine jn_go ?_ | refine ud_go ?_ | refine tr_go ?_ | (refine Hd.go ?_; intro K Q hK hQ; simp only [hn]; subst hK hQ) | refine rn_go ?_ | refine rv_go ?_ | refine jv_go ?_) | refine sd ?_)
  refine call_of h.r0 ?_
  repeat (first | (with_reducible first | refine jn_go ?_ | refine ud_go ?_ | refine tr_go ?_ | (refine Hd.go ?_; intro K Q hK hQ; simp only [nod_imm, e_not, Bool.not_false, e_cond, if_true]; subst hK hQ) | refine rn_go ?_ | refine rv_go ?_ | refine jv_go ?_) | refine sd ?_)
  exact end4 rfl rfl rfl rfl end_nil end_nil end_nil end_nil
theorem c39n {p : V} {H : Hp} (h : NR p H) (s : Int) : Ret Try.prog 39 [p, I s] H (.tup [.arr [] .no, I 1]) H := by
  have hn := h.nod
  refine mk39 _ _ rfl (Nat.le_refl _) (.inl rfl) ?_
  simp only [vc39, real]
  repeat (first | (with_reducible first | refine jn_go ?_ | refine ud_go ?_ | refine tr_go ?_ | (refine Hd.go ?_; intro K Q hK hQ; simp only [hn]; subst hK hQ) | refine rn_go ?_ | refine rv_go ?_ | refine jv_go ?_) | refine sd ?_)
  refine call_of h.r0 ?_
  repeat (first | (with_reducible first | refine jn_go ?_ | refine ud_go ?_ | refine tr_go ?_ | (refine Hd.go ?_; intro K Q hK hQ; simp only [nod_imm, e_not, Bool.not_false, e_cond, if_true]; subst hK hQ) | refine rn_go ?_ | refine rv_go ?_ | refine jv_go ?_) | refine sd ?_)
  exact end2 rfl rfl end_nil (fzI _)
theorem c40n {p : V} {H : Hp} (h : NR p H) (a d : List Int) : Ret Try.prog 40 [p, ints a .no, ints d .no] H (I 1) H := by
  have hn := h.nod
  refine mk40 _ _ _ rfl (Nat.le_refl _) (.inl rfl) ?_
  simp only [vc40, real]
  repeat (first | (with_reducible first | refine jn_go ?_ | refine ud_go ?_ | refine tr_go ?_ | (refine Hd.go ?_; intro K Q hK hQ; simp only [hn]; subst hK hQ) | refine rn_go ?_ | refine rv_go ?_ | refine jv_go ?_) | refine sd ?_)
  refine call_of h.r0 ?_
  repeat (first | (with_reducible first | refine jn_go ?_ | refine ud_go ?_ | refine tr_go ?_ | (refine Hd.go ?_; intro K Q hK hQ; simp only [nod_imm, e_not, Bool.not_false, e_cond, if_true]; subst hK hQ) | refine rn_go ?_ | refine rv_go ?_ | refine jv_go ?_) | refine sd ?_)
  exact end1 (fzI _)
theorem bel2 {n : Nat} (a b : Int) : Bel n (.agg [I a, I b]) := .agg _ fun c hc => by
  simp only [List.mem_cons, List.not_mem_nil, or_false] at hc
  rcases hc with rfl | rfl <;> exact .imm _
theorem c26n {p : V} {H : Hp} (h : NR p H) (l : List (Int × Int)) : Ret Try.prog 26 [p, .arr (l.map fdV) .no] H (.tup [.agg [I 0, I 0], I 1]) H := by
  have hn := h.nod
  refine mk26 _ _ rfl (Nat.le_refl _) (.inl rfl) ?_
  simp only [vc26, real]
  repeat (first | (with_reducible first | refine jn_go ?_ | refine ud_go ?_ | refine tr_go ?_ | (refine Hd.go ?_; intro K Q hK hQ; simp only [e_bx, okE_agg, lv_cons, List.length_nil, Nat.zero_add, Nat.reduceAdd, all_c, ck_I, all_n, Bool.and_self, and_true, cl_agg, true_and, hn]; subst hK hQ) | refine rn_go ?_ | refine rv_go ?_ | refine jv_go ?_) | refine sd ?_)
  refine call_of (h.r _) ?_
  repeat (first | (with_reducible first | refine jn_go ?_ | refine ud_go ?_ | refine tr_go ?_ | (refine Hd.go ?_; intro K Q hK hQ; simp only [nod_imm, e_not, Bool.not_false, e_cond, if_true, e_bd0, nod_ptr, e_sc0, Nat.zero_add, lv_cons, List.length_nil, Nat.reduceAdd, Nat.reduceLeDiff, stV_agg, List.map_cons, nodL_imm, List.map_nil, okE_agg, all_c, ck_I, all_n, Bool.and_self, and_true, cl_agg, spl_0, spl_n, true_and, e_rA0, dr_0, tk_s, tk_0]; subst hK hQ) | refine rn_go ?_ | refine rv_go ?_ | refine jv_go ?_) | refine sd ?_)
  exact end2A rfl rfl (.keep _ (bel2 0 0)) (fzI _)
theorem bsZ (b : Nat) (z : V) (K : V → Prop) : aBS 1 2 z [(0, .imm (.pointer none)), (1, .ptr b 0)] K = K (.arr [.imm (.pointer none), .ptr b 0] .full) := by
  unfold aBS
  have e : aPs 1 2 [(0, .imm (.pointer none)), (1, .ptr b 0)] = True := eq_true ⟨by omega, of_eq_true (okE_nilP _), by omega, of_eq_true (okE_ptr _ _), trivial⟩
  rw [e, true_and]; rfl
theorem c14 (l : List (Int × Int)) (a : List Int) (s : Int) (H : Hp) : Ret Try.prog 14 [.arr (l.map fdV) .no, ints a .no, I s] H (B true) H := by
  refine mk14 _ _ _ rfl (Nat.le_refl _) (.inl rfl) ?_
  simp only [vc14, real]
  repeat (first | (with_reducible first | refine jn_go ?_ | refine ud_go ?_ | refine tr_go ?_ | (refine Hd.go ?_; intro K Q hK hQ; simp only [nod_arr, nd_no, e_lenA, List.length_map, nod_imm, Try.underlying3, e_gtr, nod_ints, e_len, e_gF, j_or', j_one, List.getD_cons_succ, List.getD_cons_zero, e_cond]; subst hK hQ) | refine rn_go ?_ | refine rv_go ?_ | refine jv_go ?_) | refine sd ?_)
  by_cases hA : (decide (100 < (l.length : Int)) || decide (100 < (a.length : Int))) = true
  · repeat (first | (with_reducible first | refine jn_go ?_ | refine ud_go ?_ | refine tr_go ?_ | (refine Hd.go ?_; intro K Q hK hQ; simp only [hA, if_true]; subst hK hQ) | refine rn_go ?_ | refine rv_go ?_ | refine jv_go ?_) | refine sd ?_)
    refine call_of (c17 _) ?_
    with_reducible first | refine rv_go ?_ | refine rn_go ?_ | skip
    first | exact end1 (fzI _) | exact end1A (fzI _)
  repeat (first | (with_reducible first | refine jn_go ?_ | refine ud_go ?_ | refine tr_go ?_ | (refine Hd.go ?_; intro K Q hK hQ; simp only [hA, Bool.false_eq_true, if_false, e_bd0, nod_agg, List.map_cons, nodL_arr, nd_full, nodL_imm, List.map_nil, e_bx, okE_agg, lv_cons, List.length_nil, Nat.zero_add, Nat.reduceAdd, all_c, ck_arr, ck_I, all_n, Bool.and_self, and_true, cl_agg, true_and, nod_ptr, bsZ]; subst hK hQ) | refine rn_go ?_ | refine rv_go ?_ | refine jv_go ?_) | refine sd ?_)
  have hz : (H ++ [Blk.cells zc])[H.length]? = some (.cells zc) := tail0 _ _
  generalize hG : H ++ [Blk.cells zc] = G at *
  refine loop_of (fun i : Nat => i ≤ 2) (fun i => [.arr (l.map fdV) .no, ints a .no, I s, .arr [.imm (.pointer none), .ptr H.length 0] .full, I i]) (fun _ => G) (fun i => 2 - i) 0 (by omega) rfl rfl ?_
  intro i hi
  repeat (first | (with_reducible first | refine jn_go ?_ | refine ud_go ?_ | refine tr_go ?_ | (refine Hd.go ?_; intro K Q hK hQ; simp only [List.getD_cons_succ, List.getD_cons_zero, nod_imm, Try.underlying3, e_lss, e_cond, decide_eq_true_eq]; subst hK hQ) | refine rn_go ?_ | refine rv_go ?_ | refine jv_go ?_) | refine sd ?_)
  by_cases hlt : i < 2
  · have d : (i : Int) < 2 := by omega
    obtain ⟨p, hp, hnr, hcl, hld⟩ : ∃ p, ([V.imm (.pointer none), V.ptr H.length 0].getD i .junk) = p ∧ NR p G ∧ p.cl.length = 1 ∧ ∀ H KH, aLd 1 false false (.cptr p) H KH = KH p H := by
      match i, hlt with
      | 0, _ => exact ⟨_, rfl, NR.nil _, rfl, fun _ _ => rfl⟩
      | 1, _ => exact ⟨_, rfl, NR.z _ _ hz, rfl, fun _ _ => rfl⟩
    have hn := hnr.nod
    have hcl2 : ([V.imm (.pointer none), V.ptr H.length 0].getD (i : Int).toNat .junk).cl.length = 1 := by rw [← hcl, ← hp]; rfl
    repeat (first | (with_reducible first | refine jn_go ?_ | refine ud_go ?_ | refine tr_go ?_ | (refine Hd.go ?_; intro K Q hK hQ; simp only [d, if_true, List.getD_cons_succ, List.getD_cons_zero, nod_arr, nd_full, nod_imm, Int.toNat_natCast, hp, nod_cptr, hld, hn, nd_no]; subst hK hQ) | refine rn_go ?_ | refine rv_go ?_ | refine jv_go ?_) | refine sd ?_)
    refine call_of (c26n hnr l) ?_
    repeat (first | (with_reducible first | refine jn_go ?_ | refine ud_go ?_ | refine tr_go ?_ | (refine Hd.go ?_; intro K Q hK hQ; simp only [nod_tup, List.map_cons, nod2_agg, nodL_imm, List.map_nil, nod2_imm, e_x20, e_x21, nod_agg, e_bxI, okE_agg, lv_cons, List.length_nil, Nat.zero_add, Nat.reduceAdd, all_c, ck_I, all_n, Bool.and_self, and_true, true_and, List.getD_cons_zero, List.getD_cons_succ, nod_arr, nd_full, nod_imm, Int.toNat_natCast, hp, nod_cptr, hld, hn]; subst hK hQ) | refine rn_go ?_ | refine rv_go ?_ | refine jv_go ?_) | refine sd ?_)
    refine call_of (c39n hnr s) ?_
    repeat (first | (with_reducible first | refine jn_go ?_ | refine ud_go ?_ | refine tr_go ?_ | (refine Hd.go ?_; intro K Q hK hQ; simp only [nod_tup, List.map_cons, nod2_arr, nd_no, nod2_imm, List.map_nil, e_x20, e_x21, List.getD_cons_succ, List.getD_cons_zero, nod_arr, nd_full, nod_imm, Int.toNat_natCast, hp, nod_cptr, hld, hn]; subst hK hQ) | refine rn_go ?_ | refine rv_go ?_ | refine jv_go ?_) | refine sd ?_)
    refine call_of (c52n hnr) ?_
    repeat (first | (with_reducible first | refine jn_go ?_ | refine ud_go ?_ | refine tr_go ?_ | (refine Hd.go ?_; intro K Q hK hQ; simp only [nod_tup, List.map_cons, nod2_ints, nd_no, List.map_nil, List.getD_cons_zero, List.getD_cons_succ, nod_imm, Try.underlying27, e_neq, decide_true, Bool.not_true, e_gF, cond_false, j_one, nod_cptr, e_bd0, nod_agg, nodL_imm, e_ldcA, lv_cons, List.length_nil, Nat.zero_add, Nat.reduceAdd, ne48, Bool.and_self, true_and, nod_arr, nod_ints, Try.underlying3, e_len, Int.cast_ofNat_Int, e_lenA, e_add, e_gtr, j_side, nd_full, Int.toNat_natCast, hp, hld, hn]; subst hK hQ) | refine rn_go ?_ | refine rv_go ?_ | refine jv_go ?_) | refine sd ?_)
    refine call_wk (c40n hnr a []) (.cons (.refl _) (.cons (.refl _) (.cons (.full _) .nil))) ?_
    repeat (first | (with_reducible first | refine jn_go ?_ | refine ud_go ?_ | refine tr_go ?_ | (refine Hd.go ?_; intro K Q hK hQ; simp only [nod_imm, e_neq, decide_true, Bool.not_true, List.getD_cons_succ, List.getD_cons_zero, nod_arr, nd_full, Try.underlying3, e_gF, cond_false, Int.toNat_natCast, hp, nod_cptr, hld, hn]; subst hK hQ) | refine rn_go ?_ | refine rv_go ?_ | refine jv_go ?_) | refine sd ?_)
    refine call_of (c27n hnr) ?_
    repeat (first | (with_reducible first | refine jn_go ?_ | refine ud_go ?_ | refine tr_go ?_ | (refine Hd.go ?_; intro K Q hK hQ; simp only [nod_imm, e_neq, decide_true, Bool.not_true, List.getD_cons_succ, List.getD_cons_zero, nod_arr, nd_full, Try.underlying3, e_gF, cond_false, Int.toNat_natCast, hp, nod_cptr, hld, hn]; subst hK hQ) | refine rn_go ?_ | refine rv_go ?_ | refine jv_go ?_) | refine sd ?_)
    refine call_of (c41n hnr) ?_
    repeat (first | (with_reducible first | refine jn_go ?_ | refine ud_go ?_ | refine tr_go ?_ | (refine Hd.go ?_; intro K Q hK hQ; simp only [nod_imm, e_neq, decide_true, Bool.not_true, List.getD_cons_zero, List.getD_cons_succ, e_cond, Bool.false_eq_true, if_false, Try.underlying3, e_add]; subst hK hQ) | refine rn_go ?_ | refine rv_go ?_ | refine jv_go ?_) | refine sd ?_)
    exact ⟨i + 1, by omega, rfl, rfl, by omega⟩
  · have d : ¬ (i : Int) < 2 := by omega
    repeat (first | (with_reducible first | refine jn_go ?_ | refine ud_go ?_ | refine tr_go ?_ | (refine Hd.go ?_; intro K Q hK hQ; simp only [d, if_false]; subst hK hQ) | refine rn_go ?_ | refine rv_go ?_ | refine jv_go ?_) | refine sd ?_)
    rw [← hG]
    refine call_of (c17 _) ?_
    with_reducible first | refine rv_go ?_ | refine rn_go ?_ | skip
    first | exact end1 (fzI _) | exact end1A (fzI _)
end Go.Proofs.Ytpielcbpfbajlaa


set_option linter.unusedVariables false
set_option linter.unusedSimpArgs false
set_option linter.unnecessarySimpa false
set_option maxRecDepth 20000
set_option maxHeartbeats 2000000
namespace Go.Proofs.Ytpielcbpfbajlaa
open Go Go.Ab Go.Proofs
attribute [local congr] g_bin g_nilS g_nilP g_un g_ext g_bx g_fa g_ld g_st g_ix g_ixA g_slc g_mk g_bs g_bd g_nc g_cv g_len g_lenT g_app g_appB g_cpy g_mm g_call g_callG g_calm g_calmG g_range g_res g_pick g_cond g_loop g_Jv g_eqS g_eqP g_fd g_ixT g_ta g_lkp g_upd g_mkM g_appS g_inv g_callE g_callEG g_invE g_zr
open Go.ChangeShapes Go.WideShapes Go.ChangeAt Go.RowKit
theorem own : ownKnob Try.prog.godebug = none := by kernel_rfl
theorem laidOut : laidOutB Try.prog = true := by kernel_rfl
set_option maxRecDepth 100000 in
theorem lifted (os : Os) (started : os.Started) (H : Type) (enc : TypeId × Value → H) :
    ReturnsInHanded {} Try.checked os 14 .any (Rows.tractNilSpec.pre6 enc Try.prog Try.f14 Rows.tractNilRow.domain false) (Rows.tractNilSpec.post enc Try.prog Try.f14 false true false false) := by
  refine returnsInHanded_of_change (C := Try.checked) own started (by kernel_rfl) Try.func14
    (ChangeSpec.witness6 (enc := enc) (C := Try.checked) false ⟨#[], #[.slice none 0 0, .slice none 0 0, .int .i64 0], []⟩ 8 (by kernel_rfl) (by kernel_rfl) (by kernel_rfl) (by kernel_rfl)) ?_
  intro W base args ds gs before hval0 hW hcnd _
  have hval : ∀ (j : Nat) t v, Try.f14.params[j]? = some t → args[j]? = some v → Value.okWide Try.prog W .any base t v := hval0
  have hW' := hW
  obtain ⟨p, q, hA0, hV, rfl, hfz, hnd⟩ := hW
  have hA : DataW.TrodAll enc Try.prog W 0 (fun _ => true) true Try.f14.params.toList args.toList ds p := hA0
  rw [Try.params14] at hA hval
  obtain ⟨v0, vs0, d0, ds0, p0, q0, hargs, rfl, rfl, h0, r0⟩ := trodAll_cons hA
  obtain ⟨v1, vs1, d1, ds1, p1, q1, rfl, rfl, rfl, h1, r1⟩ := trodAll_cons r0
  obtain ⟨v2, vs2, d2, ds2, p2, q2, rfl, rfl, rfl, h2, r2⟩ := trodAll_cons r1
  obtain ⟨rfl, rfl, rfl⟩ := trodAll_nil r2
  obtain rfl : args = #[v0, v1, v2] := by cases args; simp_all
  obtain ⟨rfl, rfl⟩ := trodVars_none hV
  have lt0 : ∀ x ∈ p0, x.block < W.heap.size := by obtain ⟨m, hm⟩ := h0; exact DataW.trod_lt m _ _ _ hm
  obtain ⟨l0, e0⟩ := in_val Try.underlying44 opens44 (hval 0 _ v0 rfl rfl) h0
  have lt1 : ∀ x ∈ p1, x.block < W.heap.size := by obtain ⟨m, hm⟩ := h1; exact DataW.trod_lt m _ _ _ hm
  obtain ⟨l1, e1, w1⟩ := in_ints Try.underlying22 Try.underlying3 (by kernel_rfl) (hval 1 _ v1 rfl rfl) h1
  have lt2 : ∀ x ∈ p2, x.block < W.heap.size := by obtain ⟨m, hm⟩ := h2; exact DataW.trod_lt m _ _ _ hm
  obtain ⟨n2, e2, w2⟩ := in_int Try.underlying3 (hval 2 _ v2 rfl rfl) h2
  clear hA0 hval0
  refine (bridge (args := [.arr (l0.map fdV) .no, ints l1 .no, I n2]) (ra := #[v0, v1, v2]) (c14 l0 l1 n2  []) rfl (by intro a ha; simp at ha; rcases ha with rfl | rfl | rfl <;> rfl) (fun i => ?_)).mono fun e W' ⟨he, bel⟩ => ?_
  · match i with
    | 0 => exact e0
    | 1 => exact e1
    | 2 => exact e2
    | i + 3 => exact .junk _
  · subst he
    exact ⟨_, rfl, _, _, _, [], _, [], hW', trodAll_mk1 (shut_bool Try.underlying4 _), (trodAll_cons_mk (Below.trod laidOut (by kernel_rfl) (of_decide_eq_true (by kernel_rfl)) h0 bel lt0) (trodAll_cons_mk (Below.trod laidOut (by kernel_rfl) (of_decide_eq_true (by kernel_rfl)) h1 bel lt1) (trodAll_cons_mk (Below.trod laidOut (by kernel_rfl) (of_decide_eq_true (by kernel_rfl)) h2 bel lt2) trodAll_mk0))), rfl, bel.frame _, fun h => by cases h⟩
theorem over : Rows.tractNilRow.holds Try.pinned (OpenSpec.ofChange Rows.tractNilSpec) :=
  OpenClaim.holds_of_wide 14 Try.f14 rfl rfl rfl rfl rfl rfl rfl ⟨rfl, rfl, rfl, rfl, rfl⟩ rfl rfl rfl rfl rfl (by kernel_rfl) Try.func14 (by kernel_rfl)
    (of_decide_eq_true (by kernel_rfl)) (by unfold Func.isWrapper; first | (rw [if_pos (by decide +kernel)]; kernel_rfl) | (rw [if_neg (by decide +kernel)]; exact ⟨rfl, rfl⟩))
    (fun os started H enc _ => lifted os started H enc)
theorem tractNil_holds : Rows.TractNilSaid := over
#print axioms tractNil_holds
end Go.Proofs.Ytpielcbpfbajlaa

