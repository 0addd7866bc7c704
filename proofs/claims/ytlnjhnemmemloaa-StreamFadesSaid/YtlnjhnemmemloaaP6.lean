/- The machinery of the proof, part 6: an abstract machine over list values, proved sound against the model, and the contracts of the functions that the law reaches. No condition. -/
import Derived.Test.YtlnjhnemmemloaaP5
import Derived.Test.YtlnjhnemmemloaaProg
import Derived.ChangeSame
import Derived.WalkKit
import Derived.ProofKit
import Derived.OpenShut
import Derived.ShutString
import Derived.ChangeOld
import Derived.Below
set_option linter.unusedVariables false
set_option maxRecDepth 20000
set_option maxHeartbeats 4000000
namespace Go.Proofs.Ytlnjhnemmemloaa
open Go Go.Ab Go.Proofs
def an43 : An := { imm := [], jn := [], lp := [], loud := [], ord := [] }
def vc43 (C : Cb) (a0 a1 : V) (H : Hp) (R : List V → Hp → Prop) : Prop :=
 C.callE 84 [a0.nod.nod, a1.nod.nod] H fun v1 H2 =>
 C.aUn .not v1.nod fun v3 =>
 aCond v3.nod (
 R [(V.arr [] .full), (I 2)] H2) (
 C.callE 85 [a0.nod.nod, a1.nod.nod] H2 fun v4 H5 =>
 R [v4, (I 0)] H5)
theorem wf43 : (Nat.ble 2 Try.f43.ntmps && wfC an43 Try.f43.ntmps (Try.f43.body.getD .skip)) = true := by kernel_rfl
theorem tie43 (C : Cb) (a0 a1 : V) (H : Hp) (R : List V → Hp → Prop) : wpG Try.prog C an43 (Try.f43.body.getD .skip) (argF [a0, a1]) H (retG Try.prog C Try.f43 R) (fun _ _ _ => False) (retG Try.prog C Try.f43 R) = vc43 C a0 a1 H R := by kernel_rfl
theorem mk43 (a0 a1 : V) {H : Hp} {v : V} {H1 : Hp} (hd : v.Nd) (hn : H.length ≤ H1.length) (hb : H1 = H ∨ ∀ (b : Nat) (blk : Blk), H1[b]? = some blk → H[b]? = some blk ∨ BelB H1.length blk) (h : vc43 (real Try.prog) a0 a1 H (retF v H1)) : Ret Try.prog 43 [a0, a1] H v H1 :=
 ret_mk (an := an43) hm Try.call43 Try.func43 rfl wf43 hd hn hb (Eq.mpr (tie43 (real Try.prog) a0 a1 H (retF v H1)) h)
def an84 : An := { imm := [], jn := [], lp := [], loud := [], ord := [] }
def vc84 (C : Cb) (a0 a1 : V) (H : Hp) (R : List V → Hp → Prop) : Prop :=
 C.callE 61 [a0.nod.nod, (I 1), (I 1073741824)] H fun v1 H2 =>
 Jv (fun v3 H4 =>
 Jv (fun v8 H9 =>
 R [v8] H9)
 (fun R10 =>
 aG v3.nod true (
 C.callE 101 [a1.nod.nod, (V.fn 102 [])] H4 fun v11 H12 =>
 C.aUn .not v11.nod fun v13 =>
 R10 v13.nod H12) (
 R10 (B false) H4)))
 (fun R5 =>
 aG v1.nod true (
 C.aLen a1.nod.nod fun v6 =>
 C.aBin (Try.prog.underlying 3) .leq v6.nod (I 1000) fun v7 =>
 R5 v7.nod H2) (
 R5 (B false) H2))
theorem wf84 : (Nat.ble 2 Try.f84.ntmps && wfC an84 Try.f84.ntmps (Try.f84.body.getD .skip)) = true := by kernel_rfl
theorem tie84 (C : Cb) (a0 a1 : V) (H : Hp) (R : List V → Hp → Prop) : wpG Try.prog C an84 (Try.f84.body.getD .skip) (argF [a0, a1]) H (retG Try.prog C Try.f84 R) (fun _ _ _ => False) (retG Try.prog C Try.f84 R) = vc84 C a0 a1 H R := by kernel_rfl
theorem mk84 (a0 a1 : V) {H : Hp} {v : V} {H1 : Hp} (hd : v.Nd) (hn : H.length ≤ H1.length) (hb : H1 = H ∨ ∀ (b : Nat) (blk : Blk), H1[b]? = some blk → H[b]? = some blk ∨ BelB H1.length blk) (h : vc84 (real Try.prog) a0 a1 H (retF v H1)) : Ret Try.prog 84 [a0, a1] H v H1 :=
 ret_mk (an := an84) hm Try.call84 Try.func84 rfl wf84 hd hn hb (Eq.mpr (tie84 (real Try.prog) a0 a1 H (retF v H1)) h)
def an85 : An := { imm := [8], jn := [], lp := [(4, [0, 5, 6, 9, 10, 11])], loud := [], ord := [] }
def vc85 (C : Cb) (a0 a1 : V) (H : Hp) (R : List V → Hp → Prop) : Prop :=
 C.aLen a1.nod.nod fun v1 =>
 LoopA (fun l2 H3 K4 =>
 C.aBin (Try.prog.underlying 3) .lss (l2.getD 5 .junk).nod (l2.getD 4 .junk).nod fun v5 =>
 aCond v5.nod (
 C.aIx 2 (l2.getD 3 .junk).nod (l2.getD 5 .junk).nod fun v6 =>
 C.aLd 2 true false v6.nod H3 fun v7 H8 =>
 C.aBx true 2 v7.nod H8 fun v9 H10 =>
 C.aFA 0 1 false v9.nod fun v11 =>
 C.aLd 1 false false v11.nod H10 fun v12 H13 =>
 C.aBin (Try.prog.underlying 3) .add (l2.getD 2 .junk).nod.nod v12.nod fun v14 =>
 C.aBin (Try.prog.underlying 3) .add v14.nod.nod (l2.getD 0 .junk).nod.nod fun v15 =>
 C.aBin (Try.prog.underlying 3) .sub v15.nod (I 1) fun v16 =>
 C.aBin (Try.prog.underlying 3) .quo v16.nod (l2.getD 0 .junk).nod.nod fun v17 =>
 C.aBS 1 1 (I 0) [(0, v17.nod)] fun v18 =>
 C.aApp 1 8 (l2.getD 1 .junk) v18.nod fun v19 =>
 C.aBin (Try.prog.underlying 3) .add (l2.getD 5 .junk).nod (I 1) fun v20 =>
 K4 [(l2.getD 0 .junk), v19, v14, (l2.getD 3 .junk), (l2.getD 4 .junk), v20.nod] H13) (
 R [(l2.getD 1 .junk).nod] H3))
 [a0, (V.arr [] .full), (I 0), a1.nod, v1, (I 0)] H
theorem wf85 : (Nat.ble 2 Try.f85.ntmps && wfC an85 Try.f85.ntmps (Try.f85.body.getD .skip)) = true := by kernel_rfl
theorem tie85 (C : Cb) (a0 a1 : V) (H : Hp) (R : List V → Hp → Prop) : wpG Try.prog C an85 (Try.f85.body.getD .skip) (argF [a0, a1]) H (retG Try.prog C Try.f85 R) (fun _ _ _ => False) (retG Try.prog C Try.f85 R) = vc85 C a0 a1 H R := by kernel_rfl
theorem mk85 (a0 a1 : V) {H : Hp} {v : V} {H1 : Hp} (hd : v.Nd) (hn : H.length ≤ H1.length) (hb : H1 = H ∨ ∀ (b : Nat) (blk : Blk), H1[b]? = some blk → H[b]? = some blk ∨ BelB H1.length blk) (h : vc85 (real Try.prog) a0 a1 H (retF v H1)) : Ret Try.prog 85 [a0, a1] H v H1 :=
 ret_mk (an := an85) hm Try.call85 Try.func85 rfl wf85 hd hn hb (Eq.mpr (tie85 (real Try.prog) a0 a1 H (retF v H1)) h)
def an101 : An := { imm := [], jn := [], lp := [], loud := [], ord := [] }
def vc101 (C : Cb) (a0 a1 : V) (H : Hp) (R : List V → Hp → Prop) : Prop :=
 C.callE 111 [a0.nod.nod, a1.nod.nod] H fun v1 H2 =>
 C.aBin (Try.prog.underlying 3) .geq v1.nod (I 0) fun v3 =>
 R [v3] H2
theorem wf101 : (Nat.ble 2 Try.f101.ntmps && wfC an101 Try.f101.ntmps (Try.f101.body.getD .skip)) = true := by kernel_rfl
theorem tie101 (C : Cb) (a0 a1 : V) (H : Hp) (R : List V → Hp → Prop) : wpG Try.prog C an101 (Try.f101.body.getD .skip) (argF [a0, a1]) H (retG Try.prog C Try.f101 R) (fun _ _ _ => False) (retG Try.prog C Try.f101 R) = vc101 C a0 a1 H R := by kernel_rfl
theorem mk101 (a0 a1 : V) {H : Hp} {v : V} {H1 : Hp} (hd : v.Nd) (hn : H.length ≤ H1.length) (hb : H1 = H ∨ ∀ (b : Nat) (blk : Blk), H1[b]? = some blk → H[b]? = some blk ∨ BelB H1.length blk) (h : vc101 (real Try.prog) a0 a1 H (retF v H1)) : Ret Try.prog 101 [a0, a1] H v H1 :=
 ret_mk (an := an101) hm Try.call101 Try.func101 rfl wf101 hd hn hb (Eq.mpr (tie101 (real Try.prog) a0 a1 H (retF v H1)) h)
def an102 : An := { imm := [1], jn := [], lp := [], loud := [], ord := [] }
def vc102 (C : Cb) (a0 : V) (H : Hp) (R : List V → Hp → Prop) : Prop :=
 C.aBx true 2 a0.nod H fun v1 H2 =>
 C.aFA 0 1 false v1.nod fun v3 =>
 C.aLd 1 false false v3.nod H2 fun v4 H5 =>
 C.callE 61 [v4.nod, (I 0), (I 1073741824)] H5 fun v6 H7 =>
 C.aUn .not v6.nod fun v8 =>
 Jv (fun v9 H10 =>
 R [v9] H10)
 (fun R11 =>
 aG v8.nod false (
 C.aFA 1 1 false v1.nod fun v12 =>
 C.aLd 1 false false v12.nod H7 fun v13 H14 =>
 C.callE 61 [v13.nod, (I 0), (I 1099511627776)] H14 fun v15 H16 =>
 C.aUn .not v15.nod fun v17 =>
 R11 v17.nod H16) (
 R11 (B true) H7))
theorem wf102 : (Nat.ble 1 Try.f102.ntmps && wfC an102 Try.f102.ntmps (Try.f102.body.getD .skip)) = true := by kernel_rfl
theorem tie102 (C : Cb) (a0 : V) (H : Hp) (R : List V → Hp → Prop) : wpG Try.prog C an102 (Try.f102.body.getD .skip) (argF [a0]) H (retG Try.prog C Try.f102 R) (fun _ _ _ => False) (retG Try.prog C Try.f102 R) = vc102 C a0 H R := by kernel_rfl
theorem mk102 (a0 : V) {H : Hp} {v : V} {H1 : Hp} (hd : v.Nd) (hn : H.length ≤ H1.length) (hb : H1 = H ∨ ∀ (b : Nat) (blk : Blk), H1[b]? = some blk → H[b]? = some blk ∨ BelB H1.length blk) (h : vc102 (real Try.prog) a0 H (retF v H1)) : Ret Try.prog 102 [a0] H v H1 :=
 ret_mk (an := an102) hm Try.call102 Try.func102 rfl wf102 hd hn hb (Eq.mpr (tie102 (real Try.prog) a0 H (retF v H1)) h)
def an111 : An := { imm := [], jn := [], lp := [(2, [0, 1, 7, 8])], loud := [], ord := [] }
def vc111 (C : Cb) (a0 a1 : V) (H : Hp) (R : List V → Hp → Prop) : Prop :=
 C.aLen a0.nod.nod fun v1 =>
 LoopA (fun l2 H3 K4 =>
 C.aBin (Try.prog.underlying 3) .lss (l2.getD 3 .junk).nod (l2.getD 2 .junk).nod fun v5 =>
 aCond v5.nod (
 C.aIx 2 (l2.getD 0 .junk).nod.nod (l2.getD 3 .junk).nod.nod.nod fun v6 =>
 C.aLd 2 true false v6.nod H3 fun v7 H8 =>
 aCallEG C (l2.getD 1 .junk).nod.nod [v7.nod] H8 fun v9 H10 =>
 aCond v9.nod (
 R [(l2.getD 3 .junk).nod.nod] H10) (
 C.aBin (Try.prog.underlying 3) .add (l2.getD 3 .junk).nod (I 1) fun v11 =>
 K4 [(l2.getD 0 .junk), (l2.getD 1 .junk), (l2.getD 2 .junk), v11.nod] H10)) (
 R [(I (-1))] H3))
 [a0, a1, v1, (I 0)] H
theorem wf111 : (Nat.ble 2 Try.f111.ntmps && wfC an111 Try.f111.ntmps (Try.f111.body.getD .skip)) = true := by kernel_rfl
theorem tie111 (C : Cb) (a0 a1 : V) (H : Hp) (R : List V → Hp → Prop) : wpG Try.prog C an111 (Try.f111.body.getD .skip) (argF [a0, a1]) H (retG Try.prog C Try.f111 R) (fun _ _ _ => False) (retG Try.prog C Try.f111 R) = vc111 C a0 a1 H R := by kernel_rfl
theorem mk111 (a0 a1 : V) {H : Hp} {v : V} {H1 : Hp} (hd : v.Nd) (hn : H.length ≤ H1.length) (hb : H1 = H ∨ ∀ (b : Nat) (blk : Blk), H1[b]? = some blk → H[b]? = some blk ∨ BelB H1.length blk) (h : vc111 (real Try.prog) a0 a1 H (retF v H1)) : Ret Try.prog 111 [a0, a1] H v H1 :=
 ret_mk (an := an111) hm Try.call111 Try.func111 rfl wf111 hd hn hb (Eq.mpr (tie111 (real Try.prog) a0 a1 H (retF v H1)) h)
end Go.Proofs.Ytlnjhnemmemloaa
set_option linter.unusedSimpArgs false
set_option linter.unnecessarySimpa false
set_option maxHeartbeats 2000000
namespace Go.Proofs.Ytlnjhnemmemloaa
open Go Go.Ab Go.Proofs
attribute [local congr] g_bin g_nilS g_nilP g_un g_ext g_bx g_fa g_ld g_st g_ix g_ixA g_slc g_mk g_bs g_bd g_nc g_cv g_len g_lenT g_app g_appB g_cpy g_mm g_call g_callG g_calm g_calmG g_range g_res g_pick g_cond g_loop g_Jv g_eqS g_eqP g_fd g_ixT g_ta g_lkp g_upd g_mkM g_appS g_inv g_callE g_callEG g_invE g_zr g_wr
structure Jb where
 e : Int
 d : Int
deriving Inhabited, DecidableEq
abbrev jbV (j : Jb) : V := .agg [I j.e, I j.d]
theorem ix_jb (l : List Jb) (f : Fl) (i : Int) {K : V → Prop} : aIx 2 (.arr (l.map jbV) f) (I i) K = (0 ≤ i ∧ i < l.length ∧ K (.cptr (jbV (l.getD i.toNat default)))) := e_ixE jbV default (fun _ => rfl) l f i
def badJ (j : Jb) : Bool := !inB j.e 0 1073741824 || !inB j.d 0 1099511627776
def okJs (pw : Int) (l : List Jb) : Bool := inB pw 1 1073741824 && decide ((l.length : Int) ≤ 1000) && !l.any badJ
def sumE (l : List Jb) : Int := (l.map (·.e)).sum
def rdy (pw : Int) (l : List Jb) : List Int := (List.range l.length).map fun i => (sumE (l.take (i + 1)) + pw - 1).tdiv pw
theorem c102 (j : Jb) (H : Hp) : Ret Try.prog 102 [jbV j] H (B (badJ j)) H := by
 refine mk102 _ rfl (Nat.le_refl _) (.inl rfl) ?_
 simp only [vc102, real]
 repeat (first | (with_reducible first | refine Ju.go ?_ | (refine Hd.go ?_; intro K Q hK hQ; simp only [nod_agg, List.map_cons, nodL_imm, List.map_nil, e_bxI, okE_agg, lv_cons, List.length_nil, Nat.zero_add, Nat.reduceAdd, all_c, ck_I, all_n, Bool.and_self, and_true, true_and, nod_cptr, e_fac, Nat.reduceLeDiff, List.getD_cons_zero, e_ldc, nod_imm]; subst hK hQ) | refine Jr.go ?_) | refine sd ?_)
 refine call_of (c61 _ _ _ _) ?_
 repeat (first | (with_reducible first | refine Ju.go ?_ | (refine Hd.go ?_; intro K Q hK hQ; simp only [nod_imm, e_not, nod_cptr, e_fac, Nat.reduceAdd, lv_cons, List.length_nil, Nat.zero_add, Nat.reduceLeDiff, List.getD_cons_succ, List.getD_cons_zero, e_ldc, true_and, e_gF]; subst hK hQ) | refine Jr.go ?_) | refine sd ?_)
 refine jo_n (c61 _ _ _ _) ?_
 repeat (first | (with_reducible first | refine Ju.go ?_ | (refine Hd.go ?_; intro K Q hK hQ; simp only [Try.underlying3, Try.underlying4, Try.underlying5, Try.underlying9, Try.underlying22, Try.underlying23, Try.underlying30, Try.underlying43, Try.underlying44, Try.underlying57, Try.underlying100, Try.underlying124, Try.underlying184, j_one, j_side, j_tl, j_fl, nod_nod, nod_imm, nod_ints, nd_no, nd_own, nd_full, nd_fO, oF_ap, oF_succ, nod_sl, nod_ptr, nod_cptr, nod_fn, nod_junk, nodL_imm, nod_agg, nod_tup, nod2_imm, nod2_agg, cl_imm, cl_ints, cl_agg, e_add, e_sub, e_mul, e_quo, e_rem, e_eql, e_neq, e_lss, e_leq, e_gtr, e_geq, e_beq, e_bne, e_neg, e_not, e_pick, e_cond, e_gT, e_gF, e_len, e_lenA, e_lenS, e_ix, e_ixS, e_ldc, e_ldci, e_fa, rep_cl, rep_I, e_bx, okE_I, okE_B, okE_E8, okE_ints, stV_imm, stV_ints, j_and', j_or', List.getD_cons_zero, List.getD_cons_succ, List.map_cons, List.map_nil, decide_eq_true_eq, Int.toNat_natCast, Nat.mul_one, Nat.zero_add, true_and, and_true, List.length_map, Bool.not_eq_true', decide_eq_false_iff_not, nod_lists, e_lenL, e_ixL, okE_lists, bs1, bs1L, bs2L, e_app, e_appL, e_app0, e_app0L, e_slcLo, e_slcHi, e_slcLH, e_slcHH, e_slcLHH, e_callG, e_callY, e_calmG, e_slS0, e_slSLo, e_slSHi, e_slSLH, e_slSHH, e_slSLHH, e_max2, e_min2, e_max3, e_x20, e_x21, e_x30, e_x31, e_x32, nod2_ints, nod2_lists, rep_fl, bs0, e_nilE, if_true, if_false, cond_true, cond_false, decide_true, decide_false, eq_self, Bool.false_eq_true, false_implies, true_implies, ap_own, ap_full, e_slcLoL, e_slcHiL, e_slcLHL, hp_assoc, hp_cons, hp_nil, hp_len, hp_len_cons, hp_len_nil, lv_cons, lv_nil, vs_0, vs_s, spl_s, spl_0, spl_n, dr_s, dr_0, tk_s, tk_0, e_bxI, e_fac, e_facA, e_ldcA, e_ldcL, e_ldcF, okE_agg, ck_I, ck_B, ck_ints, ck_lists, ck_arr, ck_ptr, ck_cptr, ck_fn, all_c, all_n, stV_agg, stV_lists, stV_arr, stV_ptr, stV_cptr, stV_fn, nodL_ints, nodL_lists, nodL_ptr, nodL_cptr, nodL_fn, nodL_arr0, cl_arr, cl_ptr, cl_cptr, cl_fn, cl_lists, okE_arr, okE_fn, okE_ptr, okE_cptr, e_bd0, e_bd1, e_wr, Nat.reduceAdd, Nat.reduceLeDiff, Nat.reduceEqDiff, Nat.add_zero, Bool.and_self, Bool.true_and, Bool.and_true, e_lc0, e_lA0, e_lM0, e_sc0, e_rc0, e_rA0, e_lI0, e_sI0, e_cI0, e_lc1, e_lA1, e_lM1, e_sc1, e_rc1, e_rA1, e_lI1, e_sI1, e_cI1, e_lc2, e_lA2, e_lM2, e_sc2, e_rc2, e_rA2, e_lI2, e_sI2, e_cI2, e_lc3, e_lA3, e_lM3, e_sc3, e_rc3, e_rA3, e_lI3, e_sI3, e_cI3, e_lc4, e_lA4, e_lM4, e_sc4, e_rc4, e_rA4, e_lI4, e_sI4, e_cI4, e_lc5, e_lA5, e_lM5, e_sc5, e_rc5, e_rA5, e_lI5, e_sI5, e_cI5, own0_arr, own0_ints, own0_lists, own0_imm, own0_ptr, own0_cptr, own0_fn, own0_agg, e_appB, e_appB0, ck_sl, own0_sl, stV_sl, nodL_sl, cl_sl, okE_sl, e_mkM, e_mkI, e_mkIm, e_callB, nod_bfn, nod_ifc, nod_map, nodL_ifc, nodL_bfn, nodL_map, cl_ifc, cl_bfn, ck_ifc, ck_bfn, ck_map, stV_ifc, okE_ifc, okE_bfn, nod_arr, nodL_arr, e_addU, e_mulU, e_shrK, e_shlK, e_andK, e_cv64, e_cv32, e_callEG, e_callEY, e_callEB, e_zr, e_nilSl, e_ncP, e_ncC, e_ncI, e_npnP, e_npeP, e_npnC, e_npeC, e_npnN, e_npeN, e_ixAP, e_ldcP, e_ldcS, e_ldcV, e_ldcT, okE_nilP, ck_nilP, okE_nilI, ck_nilI, okE_str, ck_str, e_tlen, e_tix, e_teq, e_tne, e_tadd, e_tb, e_u8lss, e_u8gtr, noV_full, nod_arr, List.length_map, reduceIte, Int.reduceEq, Int.reduceNeg, ne_eq, not_true_eq_false, not_false_eq_true, Bool.not_true, Bool.not_false, Bool.true_or, Bool.or_true, Bool.false_or, Bool.or_false, Bool.and_true, Bool.and_false, Bool.false_and, Bool.not_not, Bool.or_self, List.length_nil, Int.ofNat_zero, Int.cast_ofNat_Int, Int.natCast_zero, beq_self_eq_true, Bool.true_eq_false]; subst hK hQ) | refine Jr.go ?_) | refine sd ?_)
 exact end1 (fzI _)
theorem c111 (l : List Jb) (H : Hp) (hl : l.length ≤ 1000000000000) : Ret Try.prog 111 [.arr (l.map jbV) .no, .fn 102 []] H (I (idxI badJ l)) H := by
 refine mk111 _ _ rfl (Nat.le_refl _) (.inl rfl) ?_
 simp only [vc111, real]
 repeat (first | (with_reducible first | refine Ju.go ?_ | (refine Hd.go ?_; intro K Q hK hQ; simp only [nod_arr, nd_no, e_lenA, List.length_map]; subst hK hQ) | refine Jr.go ?_) | refine sd ?_)
 refine loop_of (fun i : Nat => i ≤ l.length ∧ ∀ (j : Nat) (y : Jb), j < i → l[j]? = some y → badJ y = false) (fun i => [.arr (l.map jbV) .no, .fn 102 [], I l.length, I i]) (fun _ => H) (fun i => l.length - i) 0 ⟨Nat.zero_le _, fun j y h => absurd h (Nat.not_lt_zero _)⟩ rfl rfl ?_
 intro i ⟨hi, hp⟩
 repeat (first | (with_reducible first | refine Ju.go ?_ | (refine Hd.go ?_; intro K Q hK hQ; simp only [List.getD_cons_succ, List.getD_cons_zero, nod_imm, Try.underlying3, e_lss, e_cond, decide_eq_true_eq]; subst hK hQ) | refine Jr.go ?_) | refine sd ?_)
 by_cases hlt : i < l.length
 ·have d : (i : Int) < l.length := by omega
  repeat (first | (with_reducible first | refine Ju.go ?_ | (refine Hd.go ?_; intro K Q hK hQ; simp only [d, if_true, List.getD_cons_zero, nod_arr, nd_no, List.getD_cons_succ, nod_imm, ix_jb, Int.toNat_natCast, true_and, nod_cptr, e_ldcA, lv_cons, List.length_nil, Nat.zero_add, Nat.reduceAdd, nod_fn, nod_agg, List.map_cons, nodL_imm, List.map_nil, e_callEG]; subst hK hQ) | refine Jr.go ?_) | refine sd ?_)
  refine call_of (c102 _ _) ?_
  by_cases hb : badJ (l.getD i default) = true
  ·rw [hb]
   repeat (first | (with_reducible first | refine Ju.go ?_ | (refine Hd.go ?_; intro K Q hK hQ; simp only [nod_imm, e_cond, if_true]; subst hK hQ) | refine Jr.go ?_) | refine sd ?_)
   rw [idxI_at badJ l i _ (getD_someA l default hlt) hb hp]
   exact end1 (fzI _)
  ·rw [Bool.eq_false_iff.2 hb]
   repeat (first | (with_reducible first | refine Ju.go ?_ | (refine Hd.go ?_; intro K Q hK hQ; simp only [nod_imm, e_cond, Bool.false_eq_true, if_false, List.getD_cons_succ, List.getD_cons_zero, Try.underlying3, e_add]; subst hK hQ) | refine Jr.go ?_) | refine sd ?_)
   refine ⟨i + 1, ⟨by omega, fun j y hj hy => ?_⟩, rfl, rfl, by omega⟩
   by_cases e : j = i
   ·subst e
    rw [getD_someA l default hlt] at hy
    cases hy
    exact Bool.eq_false_iff.2 hb
   ·exact hp j y (by omega) hy
 ·have d : ¬ (i : Int) < l.length := by omega
  repeat (first | (with_reducible first | refine Ju.go ?_ | (refine Hd.go ?_; intro K Q hK hQ; simp only [d, if_false]; subst hK hQ) | refine Jr.go ?_) | refine sd ?_)
  rw [idxI_none badJ l (fun j y hy => hp j y (by have := (List.getElem?_eq_some_iff.1 hy).1; omega) hy)]
  exact end1 (fzI _)
theorem c101 (l : List Jb) (H : Hp) (hl : l.length ≤ 1000000000000) : Ret Try.prog 101 [.arr (l.map jbV) .no, .fn 102 []] H (B (l.any badJ)) H := by
 refine mk101 _ _ rfl (Nat.le_refl _) (.inl rfl) ?_
 simp only [vc101, real]
 repeat (first | (with_reducible first | refine Ju.go ?_ | (refine Hd.go ?_; intro K Q hK hQ; simp only [nod_arr, nd_no, nod_fn]; subst hK hQ) | refine Jr.go ?_) | refine sd ?_)
 refine call_of (c111 l H hl) ?_
 repeat (first | (with_reducible first | refine Ju.go ?_ | (refine Hd.go ?_; intro K Q hK hQ; simp only [nod_imm, Try.underlying3, e_geq, idxI_any]; subst hK hQ) | refine Jr.go ?_) | refine sd ?_)
 exact end1 (fzI _)
theorem c84 (pw : Int) (l : List Jb) (H : Hp) (hl : l.length ≤ 9223372036854775807) : Ret Try.prog 84 [I pw, .arr (l.map jbV) .no] H (B (okJs pw l)) H := by
 refine mk84 _ _ rfl (Nat.le_refl _) (.inl rfl) ?_
 simp only [vc84, real]
 repeat (first | (with_reducible first | refine Ju.go ?_ | (refine Hd.go ?_; intro K Q hK hQ; simp only [nod_imm]; subst hK hQ) | refine Jr.go ?_) | refine sd ?_)
 refine call_of (c61 _ _ _ _) ?_
 unfold okJs
 cases h1 : inB pw 1 1073741824
 ·repeat (first | (with_reducible first | refine Ju.go ?_ | (refine Hd.go ?_; intro K Q hK hQ; simp only [nod_imm, nod_arr, nd_no, Try.underlying3, e_lenA, List.length_map, e_leq, e_gT, cond_false, j_one]; subst hK hQ) | refine Jr.go ?_) | refine sd ?_)
  exact end1 (fzI _)
 ·by_cases h2 : (l.length : Int) ≤ 1000
  ·repeat (first | (with_reducible first | refine Ju.go ?_ | (refine Hd.go ?_; intro K Q hK hQ; simp only [nod_imm, nod_arr, nd_no, Try.underlying3, e_lenA, List.length_map, e_leq, h2, decide_true, e_gT, cond_true, j_one]; subst hK hQ) | refine Jr.go ?_) | refine sd ?_)
   refine call_of (c101 l _ (by omega)) ?_
   repeat (first | (with_reducible first | refine Ju.go ?_ | (refine Hd.go ?_; intro K Q hK hQ; simp only [nod_imm, e_not]; subst hK hQ) | refine Jr.go ?_) | refine sd ?_)
   have e : (true && decide ((l.length : Int) ≤ 1000) && !l.any badJ) = !l.any badJ := by rw [decide_eq_true h2]; rfl
   rw [e]
   exact end1 (fzI _)
  ·repeat (first | (with_reducible first | refine Ju.go ?_ | (refine Hd.go ?_; intro K Q hK hQ; simp only [nod_imm, nod_arr, nd_no, Try.underlying3, e_lenA, List.length_map, e_leq, h2, decide_false, e_gT, cond_true, j_one, cond_false]; subst hK hQ) | refine Jr.go ?_) | refine sd ?_)
   have e : (true && decide ((l.length : Int) ≤ 1000) && !l.any badJ) = false := by rw [decide_eq_false h2]; rfl
   rw [e]
   exact end1 (fzI _)
theorem sumE_snoc (l : List Jb) (j : Jb) : sumE (l ++ [j]) = sumE l + j.e := by unfold sumE; simp
theorem okJs.pw {pw : Int} {l : List Jb} (h : okJs pw l = true) : (1 ≤ pw ∧ pw ≤ 1073741824) ∧ l.length ≤ 1000 ∧ ∀ j, j ∈ l → (0 ≤ j.e ∧ j.e ≤ 1073741824) ∧ 0 ≤ j.d ∧ j.d ≤ 1099511627776 := by
 unfold okJs at h
 simp only [Bool.and_eq_true, decide_eq_true_eq, Bool.not_eq_true'] at h
 refine ⟨inB_iff.1 h.1.1, by omega, fun j hj => ?_⟩
 have := List.any_eq_false.1 h.2 j hj
 unfold badJ at this
 simp only [Bool.or_eq_true, Bool.not_eq_true', not_or, Bool.not_eq_false] at this
 exact ⟨inB_iff.1 this.1, inB_iff.1 this.2⟩
theorem sumE_rng {l : List Jb} (h : ∀ j, j ∈ l → 0 ≤ j.e ∧ j.e ≤ 1073741824) : 0 ≤ sumE l ∧ sumE l ≤ l.length * 1073741824 := by
 induction l with
 | nil => exact ⟨Int.le_refl _, by decide⟩
 | cons x l ih =>
  have h1 := h x (by simp)
  have h2 := ih fun j hj => h j (by simp [hj])
  have e : sumE (x :: l) = x.e + sumE l := by unfold sumE; simp
  rw [e, List.length_cons]
  omega
theorem rdy_snoc (pw : Int) (l : List Jb) {i : Nat} (hi : i < l.length) : rdy pw (l.take (i + 1)) = rdy pw (l.take i) ++ [(sumE (l.take i) + (l.getD i default).e + pw - 1).tdiv pw] := by
 unfold rdy
 have e1 : (l.take (i + 1)).length = i + 1 := by rw [List.length_take]; omega
 have e0 : (l.take i).length = i := by rw [List.length_take]; omega
 rw [e1, e0, List.range_succ, List.map_append]
 congr 1
 ·refine List.map_congr_left fun j hj => ?_
  have := List.mem_range.1 hj
  rw [List.take_take, List.take_take, Nat.min_eq_left (by omega), Nat.min_eq_left (by omega)]
 ·rw [List.map_singleton, List.take_take, Nat.min_self, take_snocA l default hi, sumE_snoc]
theorem c85 (pw : Int) (l : List Jb) (H : Hp) (ok : okJs pw l = true) : Ret Try.prog 85 [I pw, .arr (l.map jbV) .no] H (ints (rdy pw l) .no) H := by
 obtain ⟨h1, h2, h3⟩ := okJs.pw ok
 refine mk85 _ _ rfl (Nat.le_refl _) (.inl rfl) ?_
 simp only [vc85, real]
 repeat (first | (with_reducible first | refine Ju.go ?_ | (refine Hd.go ?_; intro K Q hK hQ; simp only [nod_arr, nd_no, e_lenA, List.length_map]; subst hK hQ) | refine Jr.go ?_) | refine sd ?_)
 refine loop_of (fun i : Nat => i ≤ l.length) (fun i => [I pw, ints (rdy pw (l.take i)) (oF i), I (sumE (l.take i)), .arr (l.map jbV) .no, I l.length, I i]) (fun _ => H) (fun i => l.length - i) 0 (Nat.zero_le _) rfl rfl ?_
 intro i hi
 repeat (first | (with_reducible first | refine Ju.go ?_ | (refine Hd.go ?_; intro K Q hK hQ; simp only [List.getD_cons_succ, List.getD_cons_zero, nod_imm, Try.underlying3, e_lss, e_cond, decide_eq_true_eq]; subst hK hQ) | refine Jr.go ?_) | refine sd ?_)
 by_cases hlt : i < l.length
 ·have d : (i : Int) < l.length := by omega
  have hs := sumE_rng (l := l.take i) fun j hj => (h3 j (List.mem_of_mem_take hj)).1
  have hj := h3 _ (getD_memA l default hlt)
  have hl0 : (rdy pw (l.take i)).length ≤ 1000 := by unfold rdy; simp; omega
  rw [List.length_take] at hs
  have hs2 : sumE (l.take i) ≤ 1000 * 1073741824 := by omega
  have hp0 : pw ≠ 0 := by omega
  have ht : 0 ≤ (sumE (l.take i) + (l.getD i default).e + pw - 1).tdiv pw ∧ (sumE (l.take i) + (l.getD i default).e + pw - 1).tdiv pw ≤ sumE (l.take i) + (l.getD i default).e + pw - 1 := by
   rw [Int.tdiv_eq_ediv_of_nonneg (by omega)]
   exact ⟨Int.ediv_nonneg (by omega) (by omega), Int.ediv_le_self _ (by omega)⟩
  repeat (first | (with_reducible first | refine Ju.go ?_ | (refine Hd.go ?_; intro K Q hK hQ; simp only [d, if_true, List.getD_cons_succ, List.getD_cons_zero, nod_arr, nd_no, nod_imm, ix_jb, Int.toNat_natCast, true_and, nod_cptr, e_ldcA, lv_cons, List.length_nil, Nat.zero_add, Nat.reduceAdd, nod_agg, List.map_cons, nodL_imm, List.map_nil, e_bxI, okE_agg, all_c, ck_I, all_n, Bool.and_self, and_true, e_fac, Nat.reduceLeDiff, e_ldc, Try.underlying3, e_add, e_sub, e_quo, ne_eq, hp0, not_false_eq_true, bs1, nod_ints, nd_full, e_app, oF_ap]; subst hK hQ) | refine Jr.go ?_) | refine sd ?_)
  refine ⟨i + 1, by omega, ?_, rfl, by omega⟩
  rw [rdy_snoc pw l hlt, take_snocA l default hlt, sumE_snoc]
  rfl
 ·have d : ¬ (i : Int) < l.length := by omega
  obtain rfl : i = l.length := by omega
  repeat (first | (with_reducible first | refine Ju.go ?_ | (refine Hd.go ?_; intro K Q hK hQ; simp only [d, if_false]; subst hK hQ) | refine Jr.go ?_) | refine sd ?_)
  rw [List.take_length]
  show retF (ints (rdy pw l) .no) H [(ints (rdy pw l) (oF l.length)).nod] H
  rw [nod_ints]
  exact end1 end_any
theorem c43 (pw : Int) (l : List Jb) (H : Hp) (hl : l.length ≤ 9223372036854775807) : Ret Try.prog 43 [I pw, .arr (l.map jbV) .no] H (if okJs pw l = true then .tup [ints (rdy pw l) .no, I 0] else .tup [ints [] .no, I 2]) H := by
 refine mk43 _ _ (by split <;> rfl) (Nat.le_refl _) (.inl rfl) ?_
 simp only [vc43, real]
 repeat (first | (with_reducible first | refine Ju.go ?_ | (refine Hd.go ?_; intro K Q hK hQ; simp only [nod_imm, nod_arr, nd_no]; subst hK hQ) | refine Jr.go ?_) | refine sd ?_)
 refine call_of (c84 pw l H hl) ?_
 cases h : okJs pw l
 ·repeat (first | (with_reducible first | refine Ju.go ?_ | (refine Hd.go ?_; intro K Q hK hQ; simp only [nod_imm, e_not, Bool.not_false, e_cond, if_true]; subst hK hQ) | refine Jr.go ?_) | refine sd ?_)
  rw [if_neg (by decide)]
  exact end2 rfl rfl end_nil (fzI _)
 ·repeat (first | (with_reducible first | refine Ju.go ?_ | (refine Hd.go ?_; intro K Q hK hQ; simp only [nod_imm, e_not, Bool.not_true, e_cond, Bool.false_eq_true, if_false, nod_arr, nd_no]; subst hK hQ) | refine Jr.go ?_) | refine sd ?_)
  refine call_of (c85 pw l _ h) ?_
  repeat (first | (with_reducible first | refine Ju.go ?_ | (refine Hd.go ?_; intro K Q hK hQ; simp only [Try.underlying3, Try.underlying4, Try.underlying5, Try.underlying9, Try.underlying22, Try.underlying23, Try.underlying30, Try.underlying43, Try.underlying44, Try.underlying57, Try.underlying100, Try.underlying124, Try.underlying184, j_one, j_side, j_tl, j_fl, nod_nod, nod_imm, nod_ints, nd_no, nd_own, nd_full, nd_fO, oF_ap, oF_succ, nod_sl, nod_ptr, nod_cptr, nod_fn, nod_junk, nodL_imm, nod_agg, nod_tup, nod2_imm, nod2_agg, cl_imm, cl_ints, cl_agg, e_add, e_sub, e_mul, e_quo, e_rem, e_eql, e_neq, e_lss, e_leq, e_gtr, e_geq, e_beq, e_bne, e_neg, e_not, e_pick, e_cond, e_gT, e_gF, e_len, e_lenA, e_lenS, e_ix, e_ixS, e_ldc, e_ldci, e_fa, rep_cl, rep_I, e_bx, okE_I, okE_B, okE_E8, okE_ints, stV_imm, stV_ints, j_and', j_or', List.getD_cons_zero, List.getD_cons_succ, List.map_cons, List.map_nil, decide_eq_true_eq, Int.toNat_natCast, Nat.mul_one, Nat.zero_add, true_and, and_true, List.length_map, Bool.not_eq_true', decide_eq_false_iff_not, nod_lists, e_lenL, e_ixL, okE_lists, bs1, bs1L, bs2L, e_app, e_appL, e_app0, e_app0L, e_slcLo, e_slcHi, e_slcLH, e_slcHH, e_slcLHH, e_callG, e_callY, e_calmG, e_slS0, e_slSLo, e_slSHi, e_slSLH, e_slSHH, e_slSLHH, e_max2, e_min2, e_max3, e_x20, e_x21, e_x30, e_x31, e_x32, nod2_ints, nod2_lists, rep_fl, bs0, e_nilE, if_true, if_false, cond_true, cond_false, decide_true, decide_false, eq_self, Bool.false_eq_true, false_implies, true_implies, ap_own, ap_full, e_slcLoL, e_slcHiL, e_slcLHL, hp_assoc, hp_cons, hp_nil, hp_len, hp_len_cons, hp_len_nil, lv_cons, lv_nil, vs_0, vs_s, spl_s, spl_0, spl_n, dr_s, dr_0, tk_s, tk_0, e_bxI, e_fac, e_facA, e_ldcA, e_ldcL, e_ldcF, okE_agg, ck_I, ck_B, ck_ints, ck_lists, ck_arr, ck_ptr, ck_cptr, ck_fn, all_c, all_n, stV_agg, stV_lists, stV_arr, stV_ptr, stV_cptr, stV_fn, nodL_ints, nodL_lists, nodL_ptr, nodL_cptr, nodL_fn, nodL_arr0, cl_arr, cl_ptr, cl_cptr, cl_fn, cl_lists, okE_arr, okE_fn, okE_ptr, okE_cptr, e_bd0, e_bd1, e_wr, Nat.reduceAdd, Nat.reduceLeDiff, Nat.reduceEqDiff, Nat.add_zero, Bool.and_self, Bool.true_and, Bool.and_true, e_lc0, e_lA0, e_lM0, e_sc0, e_rc0, e_rA0, e_lI0, e_sI0, e_cI0, e_lc1, e_lA1, e_lM1, e_sc1, e_rc1, e_rA1, e_lI1, e_sI1, e_cI1, e_lc2, e_lA2, e_lM2, e_sc2, e_rc2, e_rA2, e_lI2, e_sI2, e_cI2, e_lc3, e_lA3, e_lM3, e_sc3, e_rc3, e_rA3, e_lI3, e_sI3, e_cI3, e_lc4, e_lA4, e_lM4, e_sc4, e_rc4, e_rA4, e_lI4, e_sI4, e_cI4, e_lc5, e_lA5, e_lM5, e_sc5, e_rc5, e_rA5, e_lI5, e_sI5, e_cI5, own0_arr, own0_ints, own0_lists, own0_imm, own0_ptr, own0_cptr, own0_fn, own0_agg, e_appB, e_appB0, ck_sl, own0_sl, stV_sl, nodL_sl, cl_sl, okE_sl, e_mkM, e_mkI, e_mkIm, e_callB, nod_bfn, nod_ifc, nod_map, nodL_ifc, nodL_bfn, nodL_map, cl_ifc, cl_bfn, ck_ifc, ck_bfn, ck_map, stV_ifc, okE_ifc, okE_bfn, nod_arr, nodL_arr, e_addU, e_mulU, e_shrK, e_shlK, e_andK, e_cv64, e_cv32, e_callEG, e_callEY, e_callEB, e_zr, e_nilSl, e_ncP, e_ncC, e_ncI, e_npnP, e_npeP, e_npnC, e_npeC, e_npnN, e_npeN, e_ixAP, e_ldcP, e_ldcS, e_ldcV, e_ldcT, okE_nilP, ck_nilP, okE_nilI, ck_nilI, okE_str, ck_str, e_tlen, e_tix, e_teq, e_tne, e_tadd, e_tb, e_u8lss, e_u8gtr, noV_full, nod_arr, List.length_map, reduceIte, Int.reduceEq, Int.reduceNeg, ne_eq, not_true_eq_false, not_false_eq_true, Bool.not_true, Bool.not_false, Bool.true_or, Bool.or_true, Bool.false_or, Bool.or_false, Bool.and_true, Bool.and_false, Bool.false_and, Bool.not_not, Bool.or_self, List.length_nil, Int.ofNat_zero, Int.cast_ofNat_Int, Int.natCast_zero, beq_self_eq_true, Bool.true_eq_false]; subst hK hQ) | refine Jr.go ?_) | refine sd ?_)
  rw [if_pos rfl]
  exact end2 rfl rfl end_any (fzI _)
end Go.Proofs.Ytlnjhnemmemloaa
set_option maxHeartbeats 4000000
namespace Go.Proofs.Ytlnjhnemmemloaa
open Go Go.Ab Go.Proofs
def an15 : An := { imm := [1], jn := [(3, [1, 2, 3]), (7, [1, 2, 4, 5]), (8, [1, 4, 46]), (11, [1, 4, 6, 7, 8]), (14, [1, 6, 7, 8, 9, 10, 11, 12, 13]), (15, [1, 6, 7, 9, 10, 12, 90])], lp := [], loud := [], ord := [] }
def vc15 (C : Cb) (H : Hp) (R : List V → Hp → Prop) : Prop :=
 C.callE 51 [] H fun v1 H2 =>
 C.aBd [(I 0), (I 0)] [(0, 1, (I 1)), (1, 1, (I 2))] fun v3 =>
 C.callE 16 [v1.nod, v3.nod] H2 fun v4 H5 =>
 C.aExt 0 v4.nod.nod fun v6 =>
 C.aExt 1 v4.nod.nod fun v7 =>
 C.aBx true 6 v6.nod H5 fun v8 H9 =>
 Jn (fun l10 H11 =>
 C.aNilP (Try.prog.underlying 43) .eql (l10.getD 2 .junk).nod.nod fun v13 =>
 aCond v13.nod (
 R [(B false)] H11) (
 C.aBd [(I 0), (I 0), (I 0), (I 0), (I 0)] [(0, 1, (I 1)), (3, 1, (I 1000)), (4, 1, (I 100))] fun v14 =>
 C.callE 27 [(l10.getD 2 .junk).nod.nod, v14.nod] H11 fun v15 H16 =>
 Jn (fun l17 H18 =>
 Jn (fun l20 H21 =>
 aCond (l20.getD 2 .junk).nod (
 R [(B false)] H21) (
 C.callE 51 [] H21 fun v23 H24 =>
 C.callE 22 [(l20.getD 1 .junk).nod.nod, v23.nod] H24 fun v25 H26 =>
 Jn (fun l27 H28 =>
 C.callE 25 [(l27.getD 1 .junk).nod.nod, (I 2)] H28 fun v30 H31 =>
 C.callE 23 [(l27.getD 1 .junk).nod.nod, (I 4)] H31 fun v32 H33 =>
 C.aExt 0 v32.nod.nod fun v34 =>
 C.aExt 1 v32.nod.nod fun v35 =>
 C.aExt 2 v32.nod.nod fun v36 =>
 Jn (fun l37 H38 =>
 Jn (fun l40 H41 =>
 aCond (l40.getD 6 .junk).nod (
 R [(B false)] H41) (
 C.aFA 2 1 false (l40.getD 0 .junk).nod fun v43 =>
 C.aLd 1 false false v43.nod H41 fun v44 H45 =>
 C.aBS 1 12 (I 0) [(0, (I 1)), (1, (I 2)), (2, (I 1)), (3, (I 2)), (4, (I 3)), (5, (I 4)), (6, (I 3)), (7, (I 4)), (8, (I 5)), (9, (I 6)), (10, (I 5)), (11, (I 6))] fun v46 =>
 C.callE 24 [v44.nod, v46.nod] H45 fun v47 H48 =>
 Jv (fun v49 H50 =>
 Jv (fun v60 H61 =>
 Jv (fun v66 H67 =>
 Jv (fun v74 H75 =>
 Jv (fun v80 H81 =>
 Jv (fun v88 H89 =>
 R [v88] H89)
 (fun R90 =>
 aG v80.nod true (
 C.aBS 1 2 (I 0) [(0, (I 2)), (1, (I 4))] fun v91 =>
 C.callE 24 [(l40.getD 5 .junk).nod.nod, v91.nod] H81 fun v92 H93 =>
 R90 v92.nod H93) (
 R90 (B false) H81)))
 (fun R82 =>
 aG v74.nod true (
 C.aIx 4 (l40.getD 4 .junk).nod.nod (I 0) fun v83 =>
 C.aLd 4 true false v83.nod H75 fun v84 H85 =>
 C.aBd [(I 0), (I 0), (I 0), (V.imm (.string (ByteArray.mk #[])))] [(0, 1, (I 5)), (1, 1, (I 5))] fun v86 =>
 C.aEqS 59 .eql v84.nod v86.nod fun v87 =>
 R82 v87.nod H85) (
 R82 (B false) H75)))
 (fun R76 =>
 aG v66.nod true (
 C.aBS 1 4 (I 0) [(0, (I 2)), (1, (I 1)), (2, (I 0)), (3, (I 0))] fun v77 =>
 C.callE 24 [(l40.getD 3 .junk).nod.nod, v77.nod] H67 fun v78 H79 =>
 R76 v78.nod H79) (
 R76 (B false) H67)))
 (fun R68 =>
 aG v60.nod true (
 C.aIx 4 (l40.getD 2 .junk).nod.nod (I 1) fun v69 =>
 C.aLd 4 true false v69.nod H61 fun v70 H71 =>
 C.aBd [(I 0), (I 0), (I 0), (V.imm (.string (ByteArray.mk #[])))] [(0, 1, (I 2)), (1, 1, (I 2)), (3, 1, (V.imm (.string (ByteArray.mk #[120]))))] fun v72 =>
 C.aEqS 59 .eql v70.nod v72.nod fun v73 =>
 R68 v73.nod H71) (
 R68 (B false) H61)))
 (fun R62 =>
 aG v49.nod true (
 C.aBS 1 3 (I 0) [(0, (I 1)), (1, (I 2)), (2, (I 3))] fun v63 =>
 C.callE 24 [(l40.getD 1 .junk).nod.nod, v63.nod] H50 fun v64 H65 =>
 R62 v64.nod H65) (
 R62 (B false) H50)))
 (fun R51 =>
 aG v47.nod true (
 C.aFA 4 1 false (l40.getD 0 .junk).nod fun v52 =>
 C.aLd 1 false false v52.nod H48 fun v53 H54 =>
 C.aIx 2 v53.nod (I 0) fun v55 =>
 C.aFA 0 1 false v55.nod fun v56 =>
 C.aLd 1 false false v56.nod H54 fun v57 H58 =>
 C.aBin (Try.prog.underlying 3) .eql v57.nod (I 4) fun v59 =>
 R51 v59.nod H58) (
 R51 (B false) H48))))
 (fun R42 =>
 C.aBin (Try.prog.underlying 30) .neq (l37.getD 3 .junk).nod.nod (I 0) fun v94 =>
 Jv (fun v95 H96 =>
 Jv (fun v99 H100 =>
 Jv (fun v103 H104 =>
 Jv (fun v108 H109 =>
 R42 [(l37.getD 0 .junk), (l37.getD 1 .junk), (l37.getD 2 .junk), (l37.getD 4 .junk), (l37.getD 5 .junk), (l37.getD 7 .junk), v108] H109)
 (fun R110 =>
 aG v103.nod false (
 C.aLen (l37.getD 5 .junk).nod.nod fun v111 =>
 C.aBin (Try.prog.underlying 3) .neq v111.nod (I 1) fun v112 =>
 R110 v112.nod H104) (
 R110 (B true) H104)))
 (fun R105 =>
 aG v99.nod false (
 C.aLen (l37.getD 2 .junk).nod.nod fun v106 =>
 C.aBin (Try.prog.underlying 3) .neq v106.nod (I 2) fun v107 =>
 R105 v107.nod H100) (
 R105 (B true) H100)))
 (fun R101 =>
 aG v95.nod false (
 C.aBin (Try.prog.underlying 30) .neq (l37.getD 8 .junk).nod.nod (I 0) fun v102 =>
 R101 v102.nod H96) (
 R101 (B true) H96)))
 (fun R97 =>
 aG v94.nod false (
 C.aBin (Try.prog.underlying 30) .neq (l37.getD 6 .junk).nod.nod (I 0) fun v98 =>
 R97 v98.nod H38) (
 R97 (B true) H38))))
 (fun R39 =>
 C.aBd [(I 0), (I 0)] [(0, 1, (I 3))] fun v113 =>
 C.aBd [(I 0), (I 0)] [(0, 1, (I 4))] fun v114 =>
 C.aBS 2 2 (V.agg [(I 0), (I 0)]) [(0, v113.nod), (1, v114.nod)] fun v115 =>
 C.callE 43 [(I 2), v115.nod] H33 fun v116 H117 =>
 C.aExt 0 v116.nod.nod fun v118 =>
 C.aExt 1 v116.nod.nod fun v119 =>
 R39 [(l27.getD 0 .junk), (l27.getD 2 .junk), (l27.getD 3 .junk), (l27.getD 4 .junk), v34, v35, v36, v118, v119] H117))
 (fun R29 =>
 C.callE 23 [(l20.getD 1 .junk).nod.nod, (I 3)] H26 fun v120 H121 =>
 C.aExt 0 v120.nod.nod fun v122 =>
 C.aExt 1 v120.nod.nod fun v123 =>
 C.aExt 2 v120.nod.nod fun v124 =>
 R29 [(l20.getD 0 .junk), (l20.getD 1 .junk), v122, v123, v124] H121)))
 (fun R22 =>
 C.aBin (Try.prog.underlying 30) .neq (l17.getD 1 .junk).nod.nod (I 0) fun v125 =>
 Jv (fun v126 H127 =>
 Jv (fun v130 H131 =>
 Jv (fun v134 H135 =>
 R22 [(l17.getD 0 .junk), (l17.getD 2 .junk), v134] H135)
 (fun R136 =>
 aG v130.nod false (
 C.aFA 4 1 false (l17.getD 0 .junk).nod fun v137 =>
 C.aLd 1 false false v137.nod H131 fun v138 H139 =>
 C.aLen v138.nod fun v140 =>
 C.aBin (Try.prog.underlying 3) .neq v140.nod (I 1) fun v141 =>
 R136 v141.nod H139) (
 R136 (B true) H131)))
 (fun R132 =>
 aG v126.nod false (
 C.aNilP (Try.prog.underlying 44) .eql (l17.getD 2 .junk).nod.nod fun v133 =>
 R132 v133.nod H127) (
 R132 (B true) H127)))
 (fun R128 =>
 aG v125.nod false (
 C.aBin (Try.prog.underlying 30) .neq (l17.getD 3 .junk).nod.nod (I 0) fun v129 =>
 R128 v129.nod H18) (
 R128 (B true) H18))))
 (fun R19 =>
 C.callE 39 [(l10.getD 2 .junk).nod.nod] H16 fun v142 H143 =>
 C.aExt 0 v142.nod.nod fun v144 =>
 C.aExt 1 v142.nod.nod fun v145 =>
 R19 [(l10.getD 0 .junk), (l10.getD 1 .junk), v144, v145] H143)))
 (fun R12 =>
 C.callE 26 [] H9 fun v146 H147 =>
 R12 [v8, v7, v146] H147)
theorem wf15 : (Nat.ble 0 Try.f15.ntmps && wfC an15 Try.f15.ntmps (Try.f15.body.getD .skip)) = true := by kernel_rfl
theorem tie15 (C : Cb) (H : Hp) (R : List V → Hp → Prop) : wpG Try.prog C an15 (Try.f15.body.getD .skip) (argF []) H (retG Try.prog C Try.f15 R) (fun _ _ _ => False) (retG Try.prog C Try.f15 R) = vc15 C H R := by kernel_rfl
theorem mkE15 {H : Hp} {Q : V → Hp → Prop} (h : vc15 (real Try.prog) H (retW Q)) : RetE Try.prog 15 [] H Q :=
 retE_mk (an := an15) hm Try.call15 Try.func15 rfl wf15 (Eq.mpr (tie15 (real Try.prog) H (retW Q)) h)
end Go.Proofs.Ytlnjhnemmemloaa
set_option maxHeartbeats 2000000
namespace Go.Proofs.Ytlnjhnemmemloaa
open Go Go.Ab Go.Proofs
attribute [local congr] g_bin g_nilS g_nilP g_un g_ext g_bx g_fa g_ld g_st g_ix g_ixA g_slc g_mk g_bs g_bd g_nc g_cv g_len g_lenT g_app g_appB g_cpy g_mm g_call g_callG g_calm g_calmG g_range g_res g_pick g_cond g_loop g_Jv g_eqS g_eqP g_fd g_ixT g_ta g_lkp g_upd g_mkM g_appS g_inv g_callE g_callEG g_invE g_zr g_wr
def g00 : Gn := ⟨1, 0, 0, 1000, 100⟩
def mK1 : Mo := mIns 0 smp (mo0 [⟨g00, false, 0⟩])
def mK2 : Mo := mStop 2 (mPull 3 mK1).2.1
theorem kSp : okSp smp = true := by decide +kernel
theorem kPd : pdS smp ⟨1, 2⟩ = ⟨1, 1, [1, 2, 1, 2, 3, 4, 3, 4, 5, 6, 5, 6], [], [⟨4, xN⟩], 0⟩ := by decide +kernel
theorem kGn : okGn g00 = true := by decide +kernel
theorem kX3 : (mPull 3 mK1).1 = [1, 2, 3] := by decide +kernel
theorem kN3 : (mPull 3 mK1).2.2 = [⟨1, 0, 0, ByteArray.empty⟩, ⟨2, 2, 0, xN⟩] := by decide +kernel
theorem kX4 : (mPull 4 mK2).1 = [2, 1, 0, 0] := by decide +kernel
theorem kN4 : (mPull 4 mK2).2.2 = [⟨5, 5, 0, ByteArray.empty⟩] := by decide +kernel
theorem kJs : okJs 2 [⟨3, 0⟩, ⟨4, 0⟩] = true := by decide +kernel
theorem kRd : rdy 2 [⟨3, 0⟩, ⟨4, 0⟩] = [2, 4] := by decide +kernel
theorem smSmp : Sm smp := ⟨by decide, by decide, by decide, fun g hg => by
 simp only [smp, List.mem_singleton] at hg
 subst hg
 decide⟩
theorem srt_sub {l k : List Sgn} (h : l.Sublist k) : Srt k → Srt l := by
 induction h with
 | slnil => exact fun _ => trivial
 | cons a _ ih => exact fun hk => ih hk.2
 | cons_cons a hs ih => exact fun hk => ⟨fun x hx => hk.1 x (hs.mem hx), ih hk.2⟩
theorem srt_tw {p : Sgn → Bool} {l : List Sgn} (h : Srt l) : Srt (l.takeWhile p) := srt_sub (List.takeWhile_sublist _) h
theorem fade_le {x k c : Int} (h0 : 0 ≤ k) (hk : k ≤ c) (hc : 0 < c) (hx : -32768 ≤ x ∧ x ≤ 32767) : -32768 ≤ (x * k).tdiv c ∧ (x * k).tdiv c ≤ 32767 := by
 have pos : ∀ y : Int, 0 ≤ y → 0 ≤ (y * k).tdiv c ∧ (y * k).tdiv c ≤ y := fun y hy => by
  have h1 : 0 ≤ y * k := Int.mul_nonneg hy h0
  rw [Int.tdiv_eq_ediv_of_nonneg h1]
  exact ⟨Int.ediv_nonneg h1 (by omega), Int.ediv_le_of_le_mul hc (Int.mul_le_mul_of_nonneg_left hk hy)⟩
 by_cases h : 0 ≤ x
 ·have := pos x h; omega
 ·have := pos (-x) (by omega)
  have e : (x * k).tdiv c = -((-x * k).tdiv c) := by rw [Int.neg_mul, Int.neg_tdiv, Int.neg_neg]
  rw [e]; omega
theorem Mok.stop {m : Mo} (h : Mok m) (n : Nat) : Mok (mStop n m) := by
 unfold mStop
 split
 ·exact h
 ·rename_i h1
  have h0 : m.st ≠ 0 := fun e => h1 (.inl e)
  have hl : ¬ m.os.length ≤ m.sd + n := fun e => h1 (.inr e)
  have eL : (m.os.take m.sd ++ fdL m.os m.sd n).length = m.sd + n := by rw [List.length_append, List.length_take, fdL_len]; omega
  have hol := h.ol h0
  refine ⟨h.gs, h.gl, h.q, h.ql, h.k, h.c0, h.c1, .inr (.inr rfl), fun _ => by show (m.os.take m.sd ++ fdL m.os m.sd n).length ≤ _; omega, fun _ => by show m.sd ≤ (m.os.take m.sd ++ fdL m.os m.sd n).length; omega, fun _ x hx => ?_, fun _ => ?_, fun _ g hg => ?_, fun _ => ?_⟩
  ·rcases List.mem_append.1 hx with hx | hx
   ·exact h.ov h0 x (List.mem_of_mem_take hx)
   ·unfold fdL at hx
    obtain ⟨i, hi, rfl⟩ := List.mem_map.1 hx
    have := List.mem_range.1 hi
    exact fade_le (by omega) (by omega) (by omega) (h.ov h0 _ (hMem m.os (by omega)))
  ·have := h.sl h0
   have h2 := List.length_filter_le (fun g : Sgn => decide (g.a < ((m.sd + n : Nat) : Int))) m.sg
   show (m.sg.filter fun g => decide (g.a < ((m.sd + n : Nat) : Int))).length ≤ 50
   omega
  ·have hg' : g ∈ m.sg.filter fun g => decide (g.a < ((m.sd + n : Nat) : Int)) := hg
   rw [List.mem_filter, decide_eq_true_eq] at hg'
   have := h.sg h0 g hg'.1
   refine ⟨this.1, ?_⟩
   show g.a ≤ ((m.os.take m.sd ++ fdL m.os m.sd n).length : Int)
   omega
  ·show Srt (m.sg.filter fun g => decide (g.a < ((m.sd + n : Nat) : Int)))
   have := h.so h0
   rw [filter_tw this]
   exact srt_tw this
theorem bs12 (a b c d e f g h i j k l z : Int) (K : V → Prop) : aBS 1 12 (I z) [(0, I a), (1, I b), (2, I c), (3, I d), (4, I e), (5, I f), (6, I g), (7, I h), (8, I i), (9, I j), (10, I k), (11, I l)] K = K (ints [a, b, c, d, e, f, g, h, i, j, k, l] .full) := by
 simp [aBS, aPs, setP, okE_I, ints, List.replicate]
theorem bs4 (a b c d z : Int) (K : V → Prop) : aBS 1 4 (I z) [(0, I a), (1, I b), (2, I c), (3, I d)] K = K (ints [a, b, c, d] .full) := by
 simp [aBS, aPs, setP, okE_I, ints, List.replicate]
theorem bsI2 (a b z : Int) (K : V → Prop) : aBS 1 2 (I z) [(0, I a), (1, I b)] K = K (ints [a, b] .full) := by
 simp [aBS, aPs, setP, okE_I, ints, List.replicate]
theorem ix4b {x y : V} {f : Fl} (hx : y.cl.length = 4) {K : V → Prop} : aIx 4 (.arr [x, y] f) (I 1) K = K (.cptr y) := by
 show (0 ≤ (1 : Int) ∧ (1 : Int) < ((2 : Nat) : Int) ∧ y.cl.length = 4 ∧ K (.cptr y)) = _
 exact propext ⟨fun h => h.2.2.2, fun h => ⟨by omega, by omega, hx, h⟩⟩
theorem ix4a {x : V} {f : Fl} (hx : x.cl.length = 4) {K : V → Prop} : aIx 4 (.arr [x] f) (I 0) K = K (.cptr x) := by
 show (0 ≤ (0 : Int) ∧ (0 : Int) < ((1 : Nat) : Int) ∧ x.cl.length = 4 ∧ K (.cptr x)) = _
 exact propext ⟨fun h => h.2.2.2, fun h => ⟨by omega, by omega, hx, h⟩⟩
theorem ix2o {x : V} {f : Fl} (hx : x.cl.length = 2) {K : V → Prop} : aIx 2 (.arr [x] f) (I 0) K = K (.cptr x) := by
 show (0 ≤ (0 : Int) ∧ (0 : Int) < ((1 : Nat) : Int) ∧ x.cl.length = 2 ∧ K (.cptr x)) = _
 exact propext ⟨fun h => h.2.2.2, fun h => ⟨by omega, by omega, hx, h⟩⟩
theorem cut64 (a b c d e f : V) : cutA 4 1 false [a, b, c, d, e, f] = e := rfl
theorem c15 (H : Hp) : RetE Try.prog 15 [] H fun v H' => v = B true ∧ Fr H H' (fun _ => False) := by
 refine mkE15  ?_
 simp only [vc15, real]
 repeat (first | (with_reducible first | refine Ju.go ?_ | (refine Hd.go ?_; intro K Q hK hQ; simp only [Try.underlying3, Try.underlying4, Try.underlying5, Try.underlying9, Try.underlying22, Try.underlying23, Try.underlying30, Try.underlying43, Try.underlying44, Try.underlying57, Try.underlying100, Try.underlying124, Try.underlying184, j_one, j_side, j_tl, j_fl, nod_nod, nod_imm, nod_ints, nd_no, nd_own, nd_full, nd_fO, oF_ap, oF_succ, nod_sl, nod_ptr, nod_cptr, nod_fn, nod_junk, nodL_imm, nod_agg, nod_tup, nod2_imm, nod2_agg, cl_imm, cl_ints, cl_agg, e_add, e_sub, e_mul, e_quo, e_rem, e_eql, e_neq, e_lss, e_leq, e_gtr, e_geq, e_beq, e_bne, e_neg, e_not, e_pick, e_cond, e_gT, e_gF, e_len, e_lenA, e_lenS, e_ix, e_ixS, e_ldc, e_ldci, e_fa, rep_cl, rep_I, e_bx, okE_I, okE_B, okE_E8, okE_ints, stV_imm, stV_ints, j_and', j_or', List.getD_cons_zero, List.getD_cons_succ, List.map_cons, List.map_nil, decide_eq_true_eq, Int.toNat_natCast, Nat.mul_one, Nat.zero_add, true_and, and_true, List.length_map, Bool.not_eq_true', decide_eq_false_iff_not, nod_lists, e_lenL, e_ixL, okE_lists, bs1, bs1L, bs2L, e_app, e_appL, e_app0, e_app0L, e_slcLo, e_slcHi, e_slcLH, e_slcHH, e_slcLHH, e_callG, e_callY, e_calmG, e_slS0, e_slSLo, e_slSHi, e_slSLH, e_slSHH, e_slSLHH, e_max2, e_min2, e_max3, e_x20, e_x21, e_x30, e_x31, e_x32, nod2_ints, nod2_lists, rep_fl, bs0, e_nilE, if_true, if_false, cond_true, cond_false, decide_true, decide_false, eq_self, Bool.false_eq_true, false_implies, true_implies, ap_own, ap_full, e_slcLoL, e_slcHiL, e_slcLHL, hp_assoc, hp_cons, hp_nil, hp_len, hp_len_cons, hp_len_nil, lv_cons, lv_nil, vs_0, vs_s, spl_s, spl_0, spl_n, dr_s, dr_0, tk_s, tk_0, e_bxI, e_fac, e_facA, e_ldcA, e_ldcL, e_ldcF, okE_agg, ck_I, ck_B, ck_ints, ck_lists, ck_arr, ck_ptr, ck_cptr, ck_fn, all_c, all_n, stV_agg, stV_lists, stV_arr, stV_ptr, stV_cptr, stV_fn, nodL_ints, nodL_lists, nodL_ptr, nodL_cptr, nodL_fn, nodL_arr0, cl_arr, cl_ptr, cl_cptr, cl_fn, cl_lists, okE_arr, okE_fn, okE_ptr, okE_cptr, e_bd0, e_bd1, e_wr, Nat.reduceAdd, Nat.reduceLeDiff, Nat.reduceEqDiff, Nat.add_zero, Bool.and_self, Bool.true_and, Bool.and_true, e_lc0, e_lA0, e_lM0, e_sc0, e_rc0, e_rA0, e_lI0, e_sI0, e_cI0, e_lc1, e_lA1, e_lM1, e_sc1, e_rc1, e_rA1, e_lI1, e_sI1, e_cI1, e_lc2, e_lA2, e_lM2, e_sc2, e_rc2, e_rA2, e_lI2, e_sI2, e_cI2, e_lc3, e_lA3, e_lM3, e_sc3, e_rc3, e_rA3, e_lI3, e_sI3, e_cI3, e_lc4, e_lA4, e_lM4, e_sc4, e_rc4, e_rA4, e_lI4, e_sI4, e_cI4, e_lc5, e_lA5, e_lM5, e_sc5, e_rc5, e_rA5, e_lI5, e_sI5, e_cI5, own0_arr, own0_ints, own0_lists, own0_imm, own0_ptr, own0_cptr, own0_fn, own0_agg, e_appB, e_appB0, ck_sl, own0_sl, stV_sl, nodL_sl, cl_sl, okE_sl, e_mkM, e_mkI, e_mkIm, e_callB, nod_bfn, nod_ifc, nod_map, nodL_ifc, nodL_bfn, nodL_map, cl_ifc, cl_bfn, ck_ifc, ck_bfn, ck_map, stV_ifc, okE_ifc, okE_bfn, nod_arr, nodL_arr, e_addU, e_mulU, e_shrK, e_shlK, e_andK, e_cv64, e_cv32, e_callEG, e_callEY, e_callEB, e_zr, e_nilSl, e_ncP, e_ncC, e_ncI, e_npnP, e_npeP, e_npnC, e_npeC, e_npnN, e_npeN, e_ixAP, e_ldcP, e_ldcS, e_ldcV, e_ldcT, okE_nilP, ck_nilP, okE_nilI, ck_nilI, okE_str, ck_str, e_tlen, e_tix, e_teq, e_tne, e_tadd, e_tb, e_u8lss, e_u8gtr, noV_full, nod_arr, List.length_map, reduceIte, Int.reduceEq, Int.reduceNeg, ne_eq, not_true_eq_false, not_false_eq_true, Bool.not_true, Bool.not_false, Bool.true_or, Bool.or_true, Bool.false_or, Bool.or_false, Bool.and_true, Bool.and_false, Bool.false_and, Bool.not_not, Bool.or_self, List.length_nil, Int.ofNat_zero, Int.cast_ofNat_Int, Int.natCast_zero, beq_self_eq_true, Bool.true_eq_false]; subst hK hQ) | refine Jr.go ?_) | refine sd ?_)
 refine call_of (c51 _) ?_
 repeat (first | (with_reducible first | refine Ju.go ?_ | (refine Hd.go ?_; intro K Q hK hQ; simp only [e_bd1, okE_I, Nat.zero_add, lv_cons, List.length_nil, Nat.reduceAdd, Nat.reduceLeDiff, cl_imm, spl_0, spl_n, spl_s, e_bd0, true_and, nod_agg, List.map_cons, nodL_imm, nodL_ints, nd_no, nodL_arr, List.map_nil]; subst hK hQ) | refine Jr.go ?_) | refine sd ?_)
 refine call_of (c16 smp ⟨1, 2⟩ _ smSmp) ?_
 rw [if_pos (show (okSp smp && okPc ⟨1, 2⟩) = true by rw [kSp]; rfl), kPd]
 repeat (first | (with_reducible first | refine Ju.go ?_ | (refine Hd.go ?_; intro K Q hK hQ; simp only [nod_tup, List.map_cons, nod2_agg, List.map_nil, nodL_imm, nodL_ints, nd_no, nodL_arr, nod2_imm, e_x20, e_x21, nod_agg, e_bxI, okE_agg, lv_cons, List.length_nil, Nat.zero_add, Nat.reduceAdd, all_c, ck_I, ck_ints, ck_arr, all_n, Bool.and_self, and_true, true_and]; subst hK hQ) | refine Jr.go ?_) | refine sd ?_)
 refine callE_of (c26 _) ?_
 rintro v H1 ⟨rfl, rfl⟩
 have ld0 : LdAt (H ++ [Blk.cells [B true, .arr [] .full]]) H.length 0 [] := ⟨tail0 _ _, fun e => absurd rfl e, fun e => absurd rfl e⟩
 have kf0 : Fr H (H ++ [Blk.cells [B true, .arr [] .full]]) (fun _ => False) := Fr.app _ _ _
 have hl0 : (H ++ [Blk.cells [B true, .arr [] .full]]).length = H.length + 1 := by simp
 generalize H ++ [Blk.cells [B true, .arr [] .full]] = G0 at *
 repeat (first | (with_reducible first | refine Ju.go ?_ | (refine Hd.go ?_; intro K Q hK hQ; simp only [List.getD_cons_succ, List.getD_cons_zero, nod_ptr, Try.underlying43, e_npeP, nod_imm, e_cond, Bool.false_eq_true, if_false, e_bd1, okE_I, Nat.zero_add, lv_cons, List.length_nil, Nat.reduceAdd, Nat.reduceLeDiff, cl_imm, spl_0, spl_n, spl_s, e_bd0, true_and, nod_agg, List.map_cons, nodL_imm, List.map_nil]; subst hK hQ) | refine Jr.go ?_) | refine sd ?_)
 refine callE_of (c27 H.length 0 [] g00 G0 ld0 (by decide)) ?_
 rintro v G1 hq
 rw [if_pos kGn, if_pos (show ([] : List Gr).length < 500 by decide)] at hq
 obtain ⟨rfl, ⟨g', ld1, hg'⟩, kf1⟩ := hq
 rw [List.nil_append] at ld1
 repeat (first | (with_reducible first | refine Ju.go ?_ | (refine Hd.go ?_; intro K Q hK hQ; simp only [List.getD_cons_succ, List.getD_cons_zero, nod_ptr]; subst hK hQ) | refine Jr.go ?_) | refine sd ?_)
 refine callE_of (c39 H.length g' _ G1 ld1) ?_
 rintro v G2 ⟨rfl, kf2, a2, -, sp2, hS2⟩
 repeat (first | (with_reducible first | refine Ju.go ?_ | (refine Hd.go ?_; intro K Q hK hQ; simp only [nod_tup, List.map_cons, nod2_imm, List.map_nil, e_x20, e_x21, List.getD_cons_zero, List.getD_cons_succ, nod_imm, Try.underlying30, e_neq, decide_true, Bool.not_true, e_gF, cond_false, j_one, nod_nod, Try.underlying44, cut64, nod_cptr, e_ldcV, nod_arr, nd_no, e_lenA, lv_cons, List.length_nil, Nat.zero_add, Int.cast_ofNat_Int, Try.underlying3, e_cond, Bool.false_eq_true, if_false]; subst hK hQ) | refine Jr.go ?_) | refine sd ?_)
 refine call_of (c51 _) ?_
 repeat (first | (with_reducible first | refine Ju.go ?_ | (refine Hd.go ?_; intro K Q hK hQ; simp only [List.getD_cons_succ, List.getD_cons_zero, nod_nod, nod_agg, List.map_cons, nodL_imm, nodL_ints, nd_no, nodL_arr, List.map_nil]; subst hK hQ) | refine Jr.go ?_) | refine sd ?_)
 refine callE_of (c22 smp smSmp sp2 (by decide) ⟨by decide, by decide⟩) ?_
 rintro v G3 hq
 rw [if_pos kSp] at hq
 obtain ⟨rfl, a3, st3⟩ := hq
 have e1 : mIns (mo0 [⟨g00, false, 0⟩]).q.length smp (mo0 [⟨g00, false, 0⟩]) = mK1 := rfl
 rw [e1] at st3
 have mk1 : Mok mK1 := by
  have h0 := mo0_ok (gs := [⟨g00, false, 0⟩]) (fun g hg => by
   simp only [List.mem_singleton] at hg
   subst hg
   exact ⟨by decide, by decide, by decide, by decide⟩) (by decide)
  exact ⟨h0.gs, h0.gl, fun x hx => by
   have hx' : x ∈ [(⟨smp, 0, 0⟩ : Qd)] := hx
   simp only [List.mem_singleton] at hx'
   subst hx'
   exact ⟨kSp, by decide, by decide⟩, by decide, h0.k, h0.c0, h0.c1, h0.st, h0.ol, h0.od, h0.ov, h0.sl, h0.sg, h0.so⟩
 repeat (first | (with_reducible first | refine Ju.go ?_ | (refine Hd.go ?_; intro K Q hK hQ; simp only [List.getD_cons_succ, List.getD_cons_zero, nod_nod]; subst hK hQ) | refine Jr.go ?_) | refine sd ?_)
 refine callE_of (c23 3 st3.s mk1 (fun _ => by decide)) ?_
 rintro v G4 hq
 rw [if_pos (show inB 3 0 100000 = true from rfl)] at hq
 obtain ⟨⟨f4, h4, hf4, hh4, rfl⟩, ⟨a4, st4⟩, mk4, ck4, -⟩ := hq
 have z3 : (3 : Int).toNat = 3 := rfl
 rw [z3] at st4 mk4 ck4
 rw [z3, kX3, kN3]
 repeat (first | (with_reducible first | refine Ju.go ?_ | (refine Hd.go ?_; intro K Q hK hQ; simp only [List.map_cons, List.map_nil, nod_tup, nod2_ints, nod2_imm, e_x30, e_x31, e_x32, List.getD_cons_zero, List.getD_cons_succ, nod_nod]; subst hK hQ) | refine Jr.go ?_) | refine sd ?_)
 refine callE_of (c25 2 st4.s mk4) ?_
 rintro v G5 hq
 rw [if_pos (show inB 2 0 10000 = true from rfl)] at hq
 obtain ⟨rfl, st5⟩ := hq
 have z2 : (2 : Int).toNat = 2 := rfl
 rw [z2] at st5
 have nd4 : f4.nd = f4 := by rcases hf4 with rfl | rfl <;> rfl
 have na4 : ∀ l, (V.arr l h4).nod2 = V.arr l h4 := fun l => by rcases hh4 with rfl | rfl <;> rfl
 have nb4 : ∀ l, (V.arr l h4).nod = V.arr l h4 := fun l => by rcases hh4 with rfl | rfl <;> rfl
 have e5 : mStop 2 (mPull 3 mK1).2.1 = mK2 := rfl
 have mk5 := mk4.stop 2
 rw [e5] at st5 mk5
 have ck5 : mK2.ck = 3 := by decide +kernel
 repeat (first | (with_reducible first | refine Ju.go ?_ | (refine Hd.go ?_; intro K Q hK hQ; simp only [nd4, na4, List.getD_cons_succ, List.getD_cons_zero, nod_nod]; subst hK hQ) | refine Jr.go ?_) | refine sd ?_)
 refine callE_of (c23 4 st5.s mk5 (fun _ => by rw [ck5]; decide)) ?_
 rintro v G6 hq
 rw [if_pos (show inB 4 0 100000 = true from rfl)] at hq
 obtain ⟨⟨f6, h6, hf6, hh6, rfl⟩, ⟨a6, st6⟩, mk6, ck6, -⟩ := hq
 have z4 : (4 : Int).toNat = 4 := rfl
 rw [z4] at st6
 rw [z4, kX4, kN4]
 have nd6 : f6.nd = f6 := by rcases hf6 with rfl | rfl <;> rfl
 have na6 : ∀ l, (V.arr l h6).nod2 = V.arr l h6 := fun l => by rcases hh6 with rfl | rfl <;> rfl
 have nb6 : ∀ l, (V.arr l h6).nod = V.arr l h6 := fun l => by rcases hh6 with rfl | rfl <;> rfl
 have bsJ : ∀ K, aBS 2 2 (V.agg [I 0, I 0]) [(0, .agg [I 3, I 0]), (1, .agg [I 4, I 0])] K = K (.arr ([(⟨3, 0⟩ : Jb), ⟨4, 0⟩].map jbV) .full) := fun K => by
  have h1 : okE 2 (.agg [I 3, I 0]) = True := eq_true ⟨rfl, fun d hc => by
   simp only [V.cl, List.mem_cons, List.not_mem_nil, or_false] at hc
   rcases hc with rfl | rfl <;> rfl⟩
  have h2 : okE 2 (.agg [I 4, I 0]) = True := eq_true ⟨rfl, fun d hc => by
   simp only [V.cl, List.mem_cons, List.not_mem_nil, or_false] at hc
   rcases hc with rfl | rfl <;> rfl⟩
  simp [aBS, aPs, setP, h1, h2]
 repeat (first | (with_reducible first | refine Ju.go ?_ | (refine Hd.go ?_; intro K Q hK hQ; simp only [List.map_cons, List.map_nil, nod_tup, nod2_ints, nd6, na6, nod2_imm, e_x30, e_x31, e_x32, e_bd1, okE_I, Nat.zero_add, lv_cons, List.length_nil, Nat.reduceAdd, Nat.reduceLeDiff, cl_imm, spl_0, spl_n, e_bd0, true_and, nod_agg, nodL_imm, bsJ, nod_arr, nd_full]; subst hK hQ) | refine Jr.go ?_) | refine sd ?_)
 refine call_wk (c43 2 [⟨3, 0⟩, ⟨4, 0⟩] _ (by decide)) (.cons (.refl _) (.cons (.full _) .nil)) ?_
 rw [if_pos kJs, kRd]
 have i4b : ∀ K, aIx 4 (.arr [nwV ⟨1, 0, 0, ByteArray.empty⟩, nwV ⟨2, 2, 0, xN⟩] h4) (I 1) K = K (.cptr (nwV ⟨2, 2, 0, xN⟩)) := fun K => ix4b rfl
 have i4a : ∀ K, aIx 4 (.arr [nwV ⟨5, 5, 0, ByteArray.empty⟩] h6) (I 0) K = K (.cptr (nwV ⟨5, 5, 0, ByteArray.empty⟩)) := fun K => ix4a rfl
 have i2o : ∀ K, aIx 2 (.arr [sgV ⟨4, xN⟩] .no) (I 0) K = K (.cptr (sgV ⟨4, xN⟩)) := fun K => ix2o rfl
 have q1 : ∀ K, aEqS Try.prog 59 .eql (.agg [I 2, I 2, I 0, T xN]) (.agg [I 2, I 2, I 0, T (ByteArray.mk #[120])]) K = K (B true) := fun K => (eq59 ⟨2, 2, 0, xN⟩ ⟨2, 2, 0, xN⟩).trans (by rw [decide_eq_true rfl])
 have q2 : ∀ K, aEqS Try.prog 59 .eql (.agg [I 5, I 5, I 0, T ByteArray.empty]) (.agg [I 5, I 5, I 0, T (ByteArray.mk #[])]) K = K (B true) := fun K => (eq59 ⟨5, 5, 0, ByteArray.empty⟩ ⟨5, 5, 0, ByteArray.empty⟩).trans (by rw [decide_eq_true rfl])
 repeat (first | (with_reducible first | refine Ju.go ?_ | (refine Hd.go ?_; intro K Q hK hQ; simp only [nod_tup, List.map_cons, nod2_ints, nd_no, nod2_imm, List.map_nil, e_x20, e_x21, nd4, na4, List.getD_cons_zero, List.getD_cons_succ, nod_imm, Try.underlying30, e_neq, decide_true, Bool.not_true, e_gF, cond_false, j_one, nb4, e_lenA, lv_cons, List.length_nil, Nat.zero_add, Nat.reduceAdd, Int.cast_ofNat_Int, Try.underlying3, nb6, e_cond, Bool.false_eq_true, if_false, nod_cptr, e_fac, Nat.reduceLeDiff, true_and, e_ldci, bs12, nod_ints, nd_full]; subst hK hQ) | refine Jr.go ?_) | refine sd ?_)
 refine call_of (c24 [1, 2, 1, 2, 3, 4, 3, 4, 5, 6, 5, 6] [1, 2, 1, 2, 3, 4, 3, 4, 5, 6, 5, 6] .no .full _ (by decide) (.inl rfl) (.inr rfl)) ?_
 rw [decide_eq_true rfl]
 repeat (first | (with_reducible first | refine Ju.go ?_ | (refine Hd.go ?_; intro K Q hK hQ; simp only [nod_imm, List.getD_cons_zero, nod_cptr, Try.underlying3, e_fac, Nat.reduceAdd, lv_cons, List.length_nil, Nat.zero_add, Nat.reduceLeDiff, List.getD_cons_succ, e_ldcV, nod_arr, nd_no, i2o, e_ldc, e_eql, decide_true, true_and, e_gT, cond_true, j_one, nod_ints, nd4, bs3, nd_full]; subst hK hQ) | refine Jr.go ?_) | refine sd ?_)
 refine call_of (c24 [1, 2, 3] [1, 2, 3] f4 .full _ (by decide) hf4 (.inr rfl)) ?_
 rw [decide_eq_true rfl]
 repeat (first | (with_reducible first | refine Ju.go ?_ | (refine Hd.go ?_; intro K Q hK hQ; simp only [nod_imm, List.getD_cons_succ, List.getD_cons_zero, nb4, i4b, nod_cptr, e_bd1, okE_I, Nat.zero_add, lv_cons, List.length_nil, Nat.reduceAdd, Nat.reduceLeDiff, cl_imm, spl_0, spl_n, spl_s, okE_str, e_bd0, nod_agg, List.map_cons, nodL_imm, List.map_nil, true_and, e_ldcA, q1, e_gT, cond_true, j_one, nod_ints, nd6, bs4, nd_full]; subst hK hQ) | refine Jr.go ?_) | refine sd ?_)
 refine call_of (c24 [2, 1, 0, 0] [2, 1, 0, 0] f6 .full _ (by decide) hf6 (.inr rfl)) ?_
 rw [decide_eq_true rfl]
 repeat (first | (with_reducible first | refine Ju.go ?_ | (refine Hd.go ?_; intro K Q hK hQ; simp only [nod_imm, List.getD_cons_succ, List.getD_cons_zero, nb6, i4a, nod_cptr, e_bd1, okE_I, Nat.zero_add, lv_cons, List.length_nil, Nat.reduceAdd, Nat.reduceLeDiff, cl_imm, spl_0, spl_n, spl_s, e_bd0, nod_agg, List.map_cons, nodL_imm, List.map_nil, true_and, e_ldcA, q2, e_gT, cond_true, j_one, nod_ints, nd_no, bsI2, nd_full]; subst hK hQ) | refine Jr.go ?_) | refine sd ?_)
 refine call_of (c24 [2, 4] [2, 4] .no .full _ (by decide) (.inl rfl) (.inr rfl)) ?_
 rw [decide_eq_true rfl]
 repeat (first | (with_reducible first | refine Ju.go ?_ | (refine Hd.go ?_; intro K Q hK hQ; simp only [nod_imm]; subst hK hQ) | refine Jr.go ?_) | refine sd ?_)
 refine endW ⟨rfl, ?_⟩
 have hl1 := kf1.1
 have hl2 := kf2.1
 have hl3 := st3.h.1
 have hl4 := st4.h.1
 have l2 : ∀ c, c < H.length → ¬ SpS (G1.length + 2) a2 (mo0 [⟨g00, false, 0⟩]) c := fun c hc hs => by
  rcases hS2 c (by omega) hs with e | ⟨e, -⟩
  ·omega
  ·omega
 have l3 : ∀ c, c < H.length → ¬ SpS (G1.length + 2) a3 mK1 c := fun c hc hs => l2 c hc (st3.f c (by omega) hs)
 have l4 : ∀ c, c < H.length → ¬ SpS (G1.length + 2) a4 (mPull 3 mK1).2.1 c := fun c hc hs => l3 c hc (st4.f c (by omega) hs)
 have l5 : ∀ c, c < H.length → ¬ SpS (G1.length + 2) a4 mK2 c := fun c hc hs => l4 c hc (st5.f c (by omega) hs)
 have up : ∀ {A B : Hp} {S : Nat → Prop}, Fr A B S → (∀ c, c < H.length → ¬ S c) → Fr A B (fun c => H.length ≤ c) := fun h k => h.mono fun c _ hs => Nat.le_of_not_lt fun hc => k c hc hs
 have all := ((((((up kf0 fun _ _ e => e).trans (up kf1 fun c hc e => by
  rcases e with e | ⟨-, e⟩
  ·omega
  ·exact e rfl)).trans (up kf2 fun _ _ e => e)).trans (up st3.h l2)).trans (up st4.h l3)).trans (up st5.h l4)).trans (up st6.h l5)
 exact all.mono fun c hc hs => by omega
theorem argF_nd {args : List V} (hn : ∀ a, a ∈ args → a.Nd) (i : Nat) : (argF args i).Nd := by
 unfold argF
 rw [List.getD_eq_getElem?_getD]
 cases h : args[i]? with
 | none => rfl
 | some v => exact hn v (List.mem_of_getElem? h)
def sg0 (w : World) : Sg := ⟨0, fun _ => 0, fun rb => (cellsAt w rb).size⟩
theorem bridge {P : Program} {f : Nat} {args : List V} {ra : Array Value} {w : World} (h : Ret P f args [] (B true) []) (hl : args.length = ra.size) (hn : ∀ a, a ∈ args → a.Nd)
    (hr : ∀ i, Rel (sg0 w) w (argF args i) (ra.getD i undef)) : Calls P f ra w fun e w' => e = .returned (.bool true) ∧ Go.RowKit.Below w.heap.size w w' := by
  have no : ∀ (p : Go.Ab.Pl) (x : Value) (rb : Nat), ¬ OwnB (Go.Ab.pv (argF args) [] p) x rb := by
    intro p x rb ho
    cases p with
    | s i j => exact not_own_Nd (argF_nd hn i) ho
    | h b j => exact not_own_junk ho
  have st : St (sg0 w) w (argF args) ra [] :=
    { frame := hr
      hn := rfl
      heap := fun b blk hb => by simp at hb
      inj := fun b b' blk blk' hb => by simp at hb
      lt := fun b hb => absurd hb (Nat.not_lt_zero _)
      tip0 := fun b blk hb => by simp at hb
      tipz := fun rb hb => by
        show (cellsAt w rb).size = 0
        have : w.heap[rb]? = none := Array.getElem?_eq_none hb
        unfold cellsAt
        rw [this]
        rfl
      own1 := fun p rb ho => absurd ho (no _ _ _)
      own2 := fun p q rb ho => absurd ho (no _ _ _) }
  refine (h.2 (sg0 w) w ra hl st hn).mono fun e w' he => ?_
  obtain ⟨x, σ', rfl, s2, t⟩ := he
  refine ⟨?_, t.os, t.tape, t.output, t.size, fun k hk => (t.keep k hk ?_ ?_).1⟩
  · have := s2.frame 0
    have h2 : Rel σ' w' (B true) x := this
    cases h2
    rfl
  · rintro ⟨b, hb, -⟩
    exact Nat.not_lt_zero _ hb
  · rintro ⟨p, ho⟩
    exact no _ _ _ ho
theorem cells_lt {w : World} {rb off : Nat} {y : Value} (h : w.cell? ⟨rb, off, none⟩ = some y) : off < (sg0 w).tip rb := by
 show off < (cellsAt w rb).size
 unfold World.cell? at h
 unfold cellsAt
 split at h
 ·rename_i c e fz hc
  rw [hc]
  simp only [Option.isSome_none, Bool.false_eq_true, if_false] at h
  exact (Array.getElem?_eq_some_iff.1 h).1
 ·cases h
open Go.ChangeShapes Go.WideShapes Go.ChangeAt Go.RowKit
theorem in_int {H : Type} {enc : TypeId × Value → H} {P : Program} {W : World} {base : Nat} {t : TypeId} {v : Value} {d : DataW H} {p : List MemPlace} (ht : P.underlying t = some (.int .i64))
    (hv : Value.okWide P W .any base t v) (hA : DataW.Trod enc P W 0 (fun _ => true) true t v d p) : ∃ n : Int, Rel (sg0 W) W (I n) v ∧ (Lit.int .i64 n).wf = true := by
  obtain ⟨n, rfl, rfl, rfl, wf⟩ := open_int ht hv hA
  exact ⟨n, .imm _, wf⟩
def CR (W : World) (us : List V) (cs : List Value) : Prop := us.length = cs.length ∧ ∀ (i : Nat) (u : V) (c : Value), us[i]? = some u → cs[i]? = some c → Rel (sg0 W) W u c ∧ c.oneCell' = true
def Opens {H α : Type} (enc : TypeId × Value → H) (W : World) (t : TypeId) (f : α → V) : Prop := ∀ n cs y, DataW.trod enc Try.prog W 0 (fun _ => true) true n t cs = some y → ∃ x : α, CR W (f x).cl cs
theorem cr1 {W : World} {u : V} {c : Value} (h : Rel (sg0 W) W u c) (o : c.oneCell' = true) : CR W [u] [c] := by
 refine ⟨rfl, fun i u' c' hu hc => ?_⟩
 match i with
 | 0 => cases hu; cases hc; exact ⟨h, o⟩
 | i + 1 => simp at hu
theorem cr1' {W : World} {u : V} {c : Value} (h : CR W [u] [c]) : Rel (sg0 W) W u c ∧ c.oneCell' = true := h.2 0 u c rfl rfl
theorem cr_nil {W : World} : CR W [] [] := ⟨rfl, fun i u c h => by simp at h⟩
theorem cr_cons {W : World} {u : V} {us : List V} {c : Value} {cs : List Value} (h : CR W [u] [c]) (k : CR W us cs) : CR W (u :: us) (c :: cs) := by
 refine ⟨by simp [k.1], fun i u' c' hu hc => ?_⟩
 match i with
 | 0 => simp at hu hc; subst hu hc; exact cr1' h
 | i + 1 => simp at hu hc; exact k.2 i u' c' hu hc
theorem opens_int {H : Type} {enc : TypeId × Value → H} {W : World} {t : TypeId} (ht : Try.prog.underlying t = some (.int .i64)) : Opens enc W t I := fun n cs y h => by
 obtain ⟨m, rfl, -, -⟩ := DataW.trod_int ht h
 exact ⟨m, cr1 (.imm _) rfl⟩
theorem cell_spot {w : World} {a : Addr} {y : Value} (h : w.cell? a = some y) : a.spot = none := by
 unfold World.cell? at h
 split at h
 ·cases hs : a.spot with
  | none => rfl
  | some k => rw [hs] at h; simp at h
 ·cases h
theorem add_none (b off k : Nat) : (⟨b, off, none⟩ : Addr).add k = ⟨b, off + k, none⟩ := by unfold Addr.add; split <;> simp_all
theorem flat_atB {α : Type} {f : α → V} {s : Nat} (hs : 0 < s) (hf : ∀ x, (f x).cl.length = s) : ∀ (l : List α) (j : Nat) (c : V), ((l.map f).flatMap V.cl)[j]? = some c → ∃ x, l[j / s]? = some x ∧ (f x).cl[j % s]? = some c
 | [], j, c, h => by simp at h
 | x :: l, j, c, h => by
  rw [List.map_cons, List.flatMap_cons] at h
  by_cases hj : j < s
  ·rw [List.getElem?_append_left (by rw [hf]; exact hj)] at h
   exact ⟨x, by rw [Nat.div_eq_of_lt hj]; rfl, by rw [Nat.mod_eq_of_lt hj]; exact h⟩
  ·rw [List.getElem?_append_right (by rw [hf]; omega), hf] at h
   obtain ⟨y, h1, h2⟩ := flat_atB hs hf l (j - s) c h
   have hj : s ≤ j := by omega
   refine ⟨y, ?_, by rw [Nat.mod_eq_sub_mod hj]; exact h2⟩
   rw [Nat.div_eq_sub_div hs hj]; exact h1
theorem fields {H : Type} {enc : TypeId × Value → H} {W : World} {t : TypeId} {fs : Array Field} {n : Nat} {cs : List Value} {y : DataW H × List MemPlace} (ht : Try.prog.underlying t = some (.struct fs)) (h : DataW.trod enc Try.prog W 0 (fun _ => true) true n t cs = some y) :
    cs.length = Try.prog.cellsOf t ∧ ∀ (i : Nat) (f : Field), fs[i]? = some f → ∃ m z, DataW.trod enc Try.prog W 0 (fun _ => true) true m f.type ((cs.drop f.offset).take (Try.prog.cellsOf f.type)) = some z := by
  obtain ⟨xs, m, -, -, hl, hlen, hf⟩ := DataW.trod_struct ht h
  refine ⟨hl, fun i f hi => ?_⟩
  have h1 := hf i f hi
  have : i < xs.length := by rw [hlen]; exact (Array.getElem?_eq_some_iff.1 hi).1
  exact ⟨m, _, h1.trans (List.getElem?_eq_getElem this)⟩
theorem k3 : Try.prog.cellsOf 3 = 1 := by kernel_rfl
theorem one {H α : Type} {enc : TypeId × Value → H} {W : World} {t : TypeId} {f : α → V} (ho : Opens enc W t f) {c : Value} (hc : ∀ x, (f x).cl = [f x]) (h : ∃ m z, DataW.trod enc Try.prog W 0 (fun _ => true) true m t [c] = some z) : ∃ x, CR W [f x] [c] := by
 obtain ⟨m, z, h⟩ := h
 obtain ⟨x, hx⟩ := ho _ _ _ h
 rw [hc] at hx
 exact ⟨x, hx⟩
theorem fld1 {H : Type} {enc : TypeId × Value → H} {W : World} {t o : Nat} {cs : List Value} {c : Value} (h : ∃ m z, DataW.trod enc Try.prog W 0 (fun _ => true) true m t ((cs.drop o).take (Try.prog.cellsOf t)) = some z) (k : Try.prog.cellsOf t = 1) (hc : cs[o]? = some c) : ∃ m z, DataW.trod enc Try.prog W 0 (fun _ => true) true m t [c] = some z := by
 obtain ⟨hl, rfl⟩ := List.getElem?_eq_some_iff.1 hc
 rw [k, List.drop_eq_getElem_cons hl] at h
 exact h
theorem in_agg {H α : Type} {enc : TypeId × Value → H} {W : World} {base : Nat} {t : TypeId} {v : Value} {d : DataW H} {p : List MemPlace} {fs : Array Field} {g : α → List V} (ht : Try.prog.underlying t = some (.struct fs)) (ho : Opens enc W t (fun x : α => .agg (g x))) (hcl : ∀ x, (V.agg (g x)).cl = g x)
    (hv : Value.okWide Try.prog W .any base t v) (hA : DataW.Trod enc Try.prog W 0 (fun _ => true) true t v d p) : ∃ x : α, Rel (sg0 W) W (.agg (g x)) v := by
  unfold Value.okWide at hv
  rw [ht] at hv
  obtain ⟨cs, rfl, -⟩ := hv
  obtain ⟨fuel, hf⟩ := hA
  obtain ⟨x, hx⟩ := ho _ _ _ hf
  rw [hcl] at hx
  have hs : (Value.agg cs).cells.toList = cs.toList := rfl
  rw [hs] at hx
  refine ⟨x, .agg _ _ hx.1 (fun i y hy => ?_) fun i c hc => ?_⟩
  · have hi : i < (g x).length := by rw [hx.1]; simpa using (Array.getElem?_eq_some_iff.1 hy).1
    exact (hx.2 i _ y (List.getElem?_eq_getElem hi) (by simpa using hy)).2
  · have hi : i < cs.size := by rw [← Array.length_toList, ← hx.1]; exact (List.getElem?_eq_some_iff.1 hc).1
    have := (hx.2 i c cs[i] hc (by simp [hi])).1
    simpa [Array.getD, hi] using this
theorem opens_sliceB {H α : Type} {enc : TypeId × Value → H} {W : World} {t e : TypeId} {f : α → V} {s : Nat} (ht : Try.prog.underlying t = some (.slice e)) (hs : 0 < s) (hc : Try.prog.cellsOf e = s) (hf : ∀ x, (f x).cl.length = s ∧ (f x).Nd) (he : Opens enc W e f) :
    Opens enc W t (fun l : {l : List α // l.length ≤ maxLen} => .arr (l.1.map f) .no) := fun n cs y h => by
  rcases DataW.trod_slice ht h with ⟨rfl, -⟩ | ⟨a, len, cap, elems, rest, m, -, rfl, -, hb, hl, hm, hlen, hel, hre, -⟩
  · exact ⟨⟨[], Nat.zero_le _⟩, cr1 (.arr0 _ _ _ (fun h => by cases h) ⟨fun ad h => (by cases h), fun _ => rfl⟩) rfl⟩
  · rw [hc] at hel hre
    have go : ∀ (k : Nat) (z : DataW H × List MemPlace), (W.cells? 0 (a.add (k * s)) s).bind (DataW.trod enc Try.prog W 0 (fun _ => true) true m e) = some z → ∃ (x : α) (C : List Value), (∀ j, j < s → W.cell? ((a.add (k * s)).add j) = C[j]?) ∧ C.length = s ∧ CR W (f x).cl C := fun k z hz => by
      obtain ⟨C, h1, h2⟩ := Option.bind_eq_some_iff.1 hz
      obtain ⟨-, h3, h4⟩ := World.cells?_some h1
      obtain ⟨x, hx⟩ := he _ _ _ h2
      exact ⟨x, C, h4, h3, hx⟩
    have spot : cap = 0 ∨ a.spot = none := by
      by_cases h0 : cap = 0
      · exact .inl h0
      · refine .inr ?_
        have pick : ∃ z, (W.cells? 0 (a.add (0 * s)) s).bind (DataW.trod enc Try.prog W 0 (fun _ => true) true m e) = some z := by
          by_cases hl0 : 0 < len
          · exact ⟨_, (hel 0 hl0).trans (List.getElem?_eq_getElem (by omega))⟩
          · obtain rfl : len = 0 := by omega
            have := hre rfl
            exact ⟨_, (this.2 0 (by omega)).trans (List.getElem?_eq_getElem (by omega))⟩
        obtain ⟨z, hz⟩ := pick
        obtain ⟨x, C, h1, h2, -⟩ := go 0 z hz
        have h3 := h1 0 hs
        rw [List.getElem?_eq_getElem (by omega)] at h3
        rw [show (a.add (0 * s)).add 0 = a by simp [Addr.add]] at h3
        exact cell_spot h3
    have key : ∀ k, k ≤ len → ∃ l : List α, l.length = k ∧ ∃ C : Nat → List Value, ∀ i, i < k → (C i).length = s ∧ (∀ j, j < s → W.cell? ((a.add (i * s)).add j) = (C i)[j]?) ∧ ∀ x, l[i]? = some x → CR W (f x).cl (C i) := fun k => by
      induction k with
      | zero => exact fun _ => ⟨[], rfl, fun _ => [], fun i hi => absurd hi (Nat.not_lt_zero i)⟩
      | succ k ih =>
        intro hk
        obtain ⟨l, hll, C, hC⟩ := ih (by omega)
        obtain ⟨x, D, d1, d2, d3⟩ := go k _ ((hel k (by omega)).trans (List.getElem?_eq_getElem (by omega)))
        refine ⟨l ++ [x], by simp [hll], fun i => if i = k then D else C i, fun i hi => ?_⟩
        by_cases e : i = k
        · subst e
          simp only [if_true]
          refine ⟨d2, d1, fun x' hx => ?_⟩
          rw [List.getElem?_append_right (by omega), hll, Nat.sub_self] at hx
          cases hx
          exact d3
        · simp only [if_neg e]
          obtain ⟨c1, c2, c3⟩ := hC i (by omega)
          refine ⟨c1, c2, fun x' hx => c3 x' ?_⟩
          rw [List.getElem?_append_left (by omega)] at hx
          exact hx
    obtain ⟨l, hll, C, hC⟩ := key len (Nat.le_refl _)
    refine ⟨⟨l, by rw [hll]; exact Nat.le_trans hl hm⟩, cr1 ?_ rfl⟩
    show Rel _ _ (.arr (l.map f) .no) _
    by_cases h0 : len = 0
    · subst h0
      obtain rfl : l = [] := List.length_eq_zero_iff.1 hll
      refine .arr0 _ _ _ (fun h => by cases h) ⟨fun ad h => ?_, fun h => by cases h⟩
      cases h
      exact spot.symm
    · have hsp := spot.resolve_left (by omega)
      obtain ⟨b, off, sp⟩ := a
      cases hsp
      refine .arr _ .no b off len cap s (fun j => (C (j / s)).getD (j % s) undef) ?_ (by rw [List.length_map, hll]) hl (fun h => by cases h) hs ?_ ?_ ?_
      · intro h
        have := congrArg List.length h
        rw [List.length_map, hll] at this
        exact h0 this
      · intro z hz
        obtain ⟨x, -, rfl⟩ := List.mem_map.1 hz
        exact hf x
      all_goals
        intro j c hj
        obtain ⟨x, hx, hcx⟩ := flat_atB hs (fun x => (hf x).1) l j c hj
        have hjl : j / s < len := by rw [← hll]; exact (List.getElem?_eq_some_iff.1 hx).1
        obtain ⟨c1, c2, c3⟩ := hC (j / s) hjl
        have hmod := Nat.mod_lt j hs
        have hg : (C (j / s))[j % s]? = some ((C (j / s)).getD (j % s) undef) := by rw [List.getD_eq_getElem?_getD, List.getElem?_eq_getElem (by omega)]; rfl
        obtain ⟨r1, r2⟩ := (c3 x hx).2 _ _ _ hcx hg
      · have c4 := c2 (j % s) hmod
        rw [add_none, add_none, Nat.add_assoc, Nat.mul_comm, Nat.div_add_mod, hg] at c4
        exact ⟨cells_lt c4, c4, r2⟩
      · exact r1
theorem opens_valB {H α : Type} {enc : TypeId × Value → H} {W : World} {t : TypeId} {f : α → V} {p : α → Prop} (h : Opens enc W t fun l : {l : List {x : α // p x} // l.length ≤ maxLen} => .arr (l.1.map fun x => f x.1) .no) : Opens enc W t fun l : {l : List α // l.length ≤ maxLen ∧ ∀ x, x ∈ l → p x} => .arr (l.1.map f) .no := fun n cs y k => by
 obtain ⟨⟨l, hn⟩, hl⟩ := h n cs y k
 refine ⟨⟨l.map Subtype.val, by rw [List.length_map]; exact hn, fun x hx => ?_⟩, ?_⟩
 ·obtain ⟨z, -, rfl⟩ := List.mem_map.1 hx
  exact z.2
 ·simp only [List.map_map]
  exact hl
theorem opens_str {H : Type} {enc : TypeId × Value → H} {W : World} : Opens enc W 9 fun s : {s : ByteArray // s.size ≤ maxLen} => T s.1 := fun n cs y h => by
 obtain ⟨s, rfl, -, hs⟩ := DataW.trod_string Try.underlying9 h
 exact ⟨⟨s, hs⟩, cr1 (.imm _) rfl⟩
theorem opens3 {H : Type} {enc : TypeId × Value → H} {W : World} : Opens enc W 3 I := opens_int Try.underlying3
theorem k9 : Try.prog.cellsOf 9 = 1 := by kernel_rfl
theorem opens22 {H : Type} {enc : TypeId × Value → H} {W : World} : Opens enc W 22 fun l : {l : List Int // l.length ≤ maxLen} => ints l.1 .no := opens_sliceB (s := 1) Try.underlying22 (by decide) (by kernel_rfl) (fun x => ⟨rfl, rfl⟩) opens3
theorem opensSg {H : Type} {enc : TypeId × Value → H} {W : World} : Opens enc W 38 fun g : {g : Sgn // g.n.size ≤ maxLen} => sgV g.1 := fun n cs y h => by
 obtain ⟨hl, hf⟩ := fields Try.underlying38 h
 rw [show Try.prog.cellsOf 38 = 2 by kernel_rfl] at hl
 match cs, hl with
 | [c0, c1], _ =>
  obtain ⟨a, ha⟩ := one (opens3 (enc := enc)) (fun _ => rfl) (fld1 (hf 0 _ rfl) k3 rfl)
  obtain ⟨b, hb⟩ := one (opens_str (enc := enc)) (fun _ => rfl) (fld1 (hf 1 _ rfl) k9 rfl)
  exact ⟨⟨⟨a, b.1⟩, b.2⟩, cr_cons ha (cr_cons hb cr_nil)⟩
theorem opens23 {H : Type} {enc : TypeId × Value → H} {W : World} : Opens enc W 23 fun l : {l : List Sgn // l.length ≤ maxLen ∧ ∀ g, g ∈ l → g.n.size ≤ maxLen} => .arr (l.1.map sgV) .no := opens_valB (opens_sliceB (s := 2) Try.underlying23 (by decide) (by kernel_rfl) (fun x => ⟨rfl, rfl⟩) opensSg)
def spL (p : Spc) : List V := [I p.vo, I p.us, ints p.sm .no, ints p.pe .no, .arr (p.sg.map sgV) .no, I p.ef]
theorem mx : maxLen = 9223372036854775807 := rfl
theorem opens25 {H : Type} {enc : TypeId × Value → H} {W : World} : Opens enc W 25 fun s : {s : Spc // Sm s} => .agg (spL s.1) := fun n cs y h => by
 obtain ⟨hl, hf⟩ := fields Try.underlying25 h
 rw [show Try.prog.cellsOf 25 = 6 by kernel_rfl] at hl
 match cs, hl with
 | [c0, c1, c2, c3, c4, c5], _ =>
  obtain ⟨a, ha⟩ := one (opens3 (enc := enc)) (fun _ => rfl) (fld1 (hf 0 _ rfl) k3 rfl)
  obtain ⟨b, hb⟩ := one (opens3 (enc := enc)) (fun _ => rfl) (fld1 (hf 1 _ rfl) k3 rfl)
  obtain ⟨c, hc⟩ := one (opens22 (enc := enc)) (fun _ => rfl) (fld1 (hf 2 _ rfl) (show Try.prog.cellsOf 22 = 1 by kernel_rfl) rfl)
  obtain ⟨d, hd⟩ := one (opens22 (enc := enc)) (fun _ => rfl) (fld1 (hf 3 _ rfl) (show Try.prog.cellsOf 22 = 1 by kernel_rfl) rfl)
  obtain ⟨e, he⟩ := one (opens23 (enc := enc)) (fun _ => rfl) (fld1 (hf 4 _ rfl) (show Try.prog.cellsOf 23 = 1 by kernel_rfl) rfl)
  obtain ⟨g, hg⟩ := one (opens3 (enc := enc)) (fun _ => rfl) (fld1 (hf 5 _ rfl) k3 rfl)
  exact ⟨⟨⟨a, b, c.1, d.1, e.1, g⟩, ⟨c.2, d.2, e.2.1, e.2.2⟩⟩, cr_cons ha (cr_cons hb (cr_cons hc (cr_cons hd (cr_cons he (cr_cons hg cr_nil)))))⟩
theorem in_sp {H : Type} {enc : TypeId × Value → H} {W : World} {base : Nat} {v : Value} {d : DataW H} {p : List MemPlace} (hv : Value.okWide Try.prog W .any base 25 v) (hA : DataW.Trod enc Try.prog W 0 (fun _ => true) true 25 v d p) : ∃ s : Spc, Sm s ∧ Rel (sg0 W) W (spV s) v := by
 obtain ⟨x, hx⟩ := in_agg (g := fun x : {s : Spc // Sm s} => spL x.1) Try.underlying25 opens25 (fun _ => rfl) hv hA
 exact ⟨x.1, x.2, hx⟩
end Go.Proofs.Ytlnjhnemmemloaa
namespace Go.Proofs.Ytlnjhnemmemloaa
open Go Go.Ab Go.Proofs
attribute [local congr] g_bin g_nilS g_nilP g_un g_ext g_bx g_fa g_ld g_st g_ix g_ixA g_slc g_mk g_bs g_bd g_nc g_cv g_len g_lenT g_app g_appB g_cpy g_mm g_call g_callG g_calm g_calmG g_range g_res g_pick g_cond g_loop g_Jv g_eqS g_eqP g_fd g_ixT g_ta g_lkp g_upd g_mkM g_appS g_inv g_callE g_callEG g_invE g_zr g_wr
open Go.ChangeShapes Go.WideShapes Go.ChangeAt Go.RowKit
end Go.Proofs.Ytlnjhnemmemloaa
namespace Go.Proofs.Ytlnjhnemmemloaa
open Go Go.Ab Go.Proofs
attribute [local congr] g_bin g_nilS g_nilP g_un g_ext g_bx g_fa g_ld g_st g_ix g_ixA g_slc g_mk g_bs g_bd g_nc g_cv g_len g_lenT g_app g_appB g_cpy g_mm g_call g_callG g_calm g_calmG g_range g_res g_pick g_cond g_loop g_Jv g_eqS g_eqP g_fd g_ixT g_ta g_lkp g_upd g_mkM g_appS g_inv g_callE g_callEG g_invE g_zr g_wr
theorem c15x (H : Hp) : Ret Try.prog 15 [] H (B true) H := by
 have := RetE.pick (v := B true) (H0 := H) (Hs := []) (c15 H) rfl rfl (fun v' H' hq => by
  obtain ⟨rfl, hf⟩ := hq
  exact ⟨[], hf.1, fun b blk hb => ⟨blk, by rw [hf.2 b (get_lt hb) (fun e => e)]; exact hb, .inl ⟨rfl, rfl⟩⟩, rfl, fun i k h => (by cases h), fun i k blk h => (by cases h), fun i j k blk blk' h => (by cases h), .keep _ (.imm _)⟩)
 rw [List.append_nil] at this
 exact this
theorem stepQ {m : Mo} (hq : m.q = []) : mStep m = mEnd m := by
 unfold mStep mBegin
 rw [hq]
theorem samp1 {m : Mo} (hq : m.q = []) (h0 : m.st ≠ 0) (h : m.sd < m.os.length) : mSample m = (m.os.getD m.sd 0, { m with sg := m.sg.dropWhile (due m), sd := m.sd + 1, late := false, ck := m.ck + 1 }, (m.sg.takeWhile (due m)).map (sgNw m)) := by
 have hs : mStep m = none := by rw [stepQ hq]; exact if_pos (.inr h)
 unfold mSample
 rw [settle_none hs]
 have : mHear m = (m.os.getD m.sd 0, { m with sg := m.sg.dropWhile (due m), sd := m.sd + 1, late := false }, (m.sg.takeWhile (due m)).map (sgNw m)) := if_pos h0
 simp only [this, List.nil_append]
theorem samp3 {m : Mo} (hq : m.q = []) (h0 : m.st = 0) : mSample m = (0, { m with late := false, ck := m.ck + 1 }, []) := by
 have hs : mStep m = none := by rw [stepQ hq]; exact if_pos (.inl h0)
 unfold mSample
 rw [settle_none hs]
 have e1 : decide (m.q ≠ []) = false := by rw [hq]; rfl
 have : mHear m = (0, { m with late := decide (m.q ≠ []) }, lateN m) := if_neg (fun e => e h0)
 simp only [this, lateN_nil hq, e1, List.nil_append]
theorem samp2 {m : Mo} (hq : m.q = []) (h0 : m.st ≠ 0) (h : m.os.length ≤ m.sd) : ∃ m' ns, mSample m = (0, m', ns) ∧ m'.q = [] ∧ m'.st = 0 ∧ m'.ck = m.ck + 1 ∧ (∀ x, x ∈ ns → x.k = 5 → m.st = 2 ∧ x.a = m.ck) ∧ (m.st = 2 → ∃ x, x ∈ ns ∧ x.k = 5 ∧ x.a = m.ck) := by
 have hn : ¬ (m.st = 0 ∨ m.sd < m.os.length) := by rintro (e | e); exact h0 e; omega
 by_cases h2 : m.st = 2
 ·have e : mStep m = some ({ m with st := 0 }, [nwE m 5 m.nn]) := by rw [stepQ hq]; unfold mEnd; rw [if_neg hn, if_pos h2]
  have s3 := samp3 (m := { m with st := 0 }) hq rfl
  have hs : mStep ({ m with st := 0 } : Mo) = none := (stepQ (by exact hq)).trans (if_pos (.inl rfl))
  refine ⟨{ m with st := 0, late := false, ck := m.ck + 1 }, [nwE m 5 m.nn], ?_, hq, rfl, rfl, fun x hx _ => ?_, fun _ => ⟨_, List.mem_singleton.2 rfl, rfl, rfl⟩⟩
  ·unfold mSample at s3 ⊢
   rw [settle_some e, settle_none hs]
   rw [settle_none hs] at s3
   simp only [List.nil_append, Prod.mk.injEq] at s3
   obtain ⟨a1, a2, a3⟩ := s3
   simp only
   rw [a1, a2, a3]; rfl
  ·simp only [List.mem_singleton] at hx
   subst hx
   exact ⟨h2, rfl⟩
 ·have e : mStep m = some ({ m with st := 0, sg := m.sg.dropWhile (due m) }, (m.sg.takeWhile (due m)).map (sgNw m) ++ [nwE m 3 m.nn]) := by rw [stepQ hq]; unfold mEnd; rw [if_neg hn, if_neg h2]
  have s3 := samp3 (m := { m with st := 0, sg := m.sg.dropWhile (due m) }) hq rfl
  have hs : mStep ({ m with st := 0, sg := m.sg.dropWhile (due m) } : Mo) = none := (stepQ (by exact hq)).trans (if_pos (.inl rfl))
  refine ⟨{ m with st := 0, sg := m.sg.dropWhile (due m), late := false, ck := m.ck + 1 }, (m.sg.takeWhile (due m)).map (sgNw m) ++ [nwE m 3 m.nn], ?_, hq, rfl, rfl, fun x hx hk => ?_, fun e => absurd e h2⟩
  ·unfold mSample at s3 ⊢
   rw [settle_some e, settle_none hs]
   rw [settle_none hs] at s3
   simp only [List.nil_append, Prod.mk.injEq] at s3
   obtain ⟨a1, a2, a3⟩ := s3
   simp only
   rw [a1, a2, a3]
   simp
  ·rcases List.mem_append.1 hx with hx | hx
   ·obtain ⟨g, -, rfl⟩ := List.mem_map.1 hx
    have : (2 : Int) = 5 := hk
    omega
   ·simp only [List.mem_singleton] at hx
    subst hx
    have : (3 : Int) = 5 := hk
    omega
structure Ply (m : Mo) (n : Nat) (r : List Int × Mo × List Nw) : Prop where
 len : r.1.length = n
 q : r.2.1.q = []
 ck : r.2.1.ck = m.ck + n
 x : ∀ i, i < n → r.1.getD i 0 = m.os.getD (m.sd + i) 0
 a : m.sd + n ≤ m.os.length → r.2.1.st = m.st ∧ r.2.1.os = m.os ∧ r.2.1.sd = m.sd + n
 b : m.os.length < m.sd + n → r.2.1.st = 0
 n5 : ∀ y, y ∈ r.2.2 → y.k = 5 → m.st = 2 ∧ y.a = m.ck + (m.os.length - m.sd : Nat)
 m5 : m.os.length < m.sd + n → m.st = 2 → ∃ y, y ∈ r.2.2 ∧ y.k = 5 ∧ y.a = m.ck + (m.os.length - m.sd : Nat)
theorem getD_snocI (l : List Int) (x : Int) (i : Nat) : (l ++ [x]).getD i 0 = if i < l.length then l.getD i 0 else if i = l.length then x else 0 := by
 rw [List.getD_eq_getElem?_getD]
 by_cases h : i < l.length
 ·rw [if_pos h, List.getElem?_append_left h, List.getD_eq_getElem?_getD]
 ·rw [if_neg h]
  by_cases e : i = l.length
  ·subst e; rw [if_pos rfl, List.getElem?_append_right (Nat.le_refl _), Nat.sub_self]; rfl
  ·rw [if_neg e, List.getElem?_eq_none (by rw [List.length_append, List.length_singleton]; omega)]; rfl
theorem play {m : Mo} (hq : m.q = []) (h0 : m.st ≠ 0) (hsd : m.sd ≤ m.os.length) : ∀ n, Ply m n (mPull n m)
 | 0 => ⟨rfl, hq, (Int.add_zero _).symm, fun i hi => absurd hi (Nat.not_lt_zero _), fun _ => ⟨rfl, rfl, rfl⟩, fun h => by omega, fun y hy => (by cases hy), fun h => by omega⟩
 | n + 1 => by
  have ih := play hq h0 hsd n
  show Ply m (n + 1) ((mPull n m).1 ++ [(mSample (mPull n m).2.1).1], (mSample (mPull n m).2.1).2.1, (mPull n m).2.2 ++ (mSample (mPull n m).2.1).2.2)
  generalize mPull n m = r at ih
  by_cases hA : m.sd + n ≤ m.os.length
  ·obtain ⟨a1, a2, a3⟩ := ih.a hA
   have hst : r.2.1.st ≠ 0 := by rw [a1]; exact h0
   by_cases hB : m.sd + n < m.os.length
   ·rw [samp1 ih.q hst (by rw [a2, a3]; exact hB)]
    refine ⟨by simp [ih.len], ih.q, by show r.2.1.ck + 1 = _; rw [ih.ck]; omega, fun i hi => ?_, fun _ => ⟨a1, a2, by show r.2.1.sd + 1 = _; rw [a3]; omega⟩, fun h => by omega, fun y hy hk => ?_, fun h => by omega⟩
    ·rw [getD_snocI, ih.len]
     by_cases e : i < n
     ·rw [if_pos e]; exact ih.x i e
     ·rw [if_neg e, if_pos (by omega), a2, a3, show i = n by omega]
    ·rcases List.mem_append.1 hy with hy | hy
     ·exact ih.n5 y hy hk
     ·obtain ⟨g, -, rfl⟩ := List.mem_map.1 hy
      have : (2 : Int) = 5 := hk
      omega
   ·obtain ⟨m', ns, e, e1, e2, e3, e4, e5⟩ := samp2 ih.q hst (by rw [a2, a3]; omega)
    rw [e]
    have hck : r.2.1.ck = m.ck + (m.os.length - m.sd : Nat) := by rw [ih.ck]; omega
    refine ⟨by simp [ih.len], e1, by show m'.ck = _; rw [e3, ih.ck]; omega, fun i hi => ?_, fun h => by omega, fun _ => e2, fun y hy hk => ?_, fun _ h2 => ?_⟩
    ·rw [getD_snocI, ih.len]
     by_cases e : i < n
     ·rw [if_pos e]; exact ih.x i e
     ·rw [if_neg e, if_pos (by omega), List.getD_eq_getElem?_getD, List.getElem?_eq_none (by omega)]; rfl
    ·rcases List.mem_append.1 hy with hy | hy
     ·exact ih.n5 y hy hk
     ·have := e4 y hy hk
      rw [a1, hck] at this
      exact this
    ·obtain ⟨y, hy, hk, ha⟩ := e5 (by rw [a1]; exact h2)
     exact ⟨y, List.mem_append_right _ hy, hk, by rw [ha, hck]⟩
  ·have hst := ih.b (by omega)
   rw [samp3 ih.q hst]
   refine ⟨by simp [ih.len], ih.q, by show r.2.1.ck + 1 = _; rw [ih.ck]; omega, fun i hi => ?_, fun h => by omega, fun _ => hst, fun y hy hk => ?_, fun _ h2 => ?_⟩
   ·rw [getD_snocI, ih.len]
    by_cases e : i < n
    ·rw [if_pos e]; exact ih.x i e
    ·rw [if_neg e, if_pos (by omega), List.getD_eq_getElem?_getD, List.getElem?_eq_none (by omega)]; rfl
   ·rcases List.mem_append.1 hy with hy | hy
    ·exact ih.n5 y hy hk
    ·cases hy
   ·obtain ⟨y, hy, hk, ha⟩ := ih.m5 (by omega) h2
    exact ⟨y, List.mem_append_left _ hy, hk, ha⟩
theorem quiet {m : Mo} (hq : m.q = []) (h0 : m.st = 0) : ∀ n, (mPull n m).1.length = n ∧ (mPull n m).2.1.q = [] ∧ (mPull n m).2.1.st = 0 ∧ (mPull n m).2.2 = [] ∧ ∀ i, (mPull n m).1.getD i 0 = 0
 | 0 => ⟨rfl, hq, h0, rfl, fun i => rfl⟩
 | n + 1 => by
  obtain ⟨e1, e2, e3, e4, e5⟩ := quiet hq h0 n
  show ((mPull n m).1 ++ [(mSample (mPull n m).2.1).1]).length = n + 1 ∧ (mSample (mPull n m).2.1).2.1.q = [] ∧ (mSample (mPull n m).2.1).2.1.st = 0 ∧ (mPull n m).2.2 ++ (mSample (mPull n m).2.1).2.2 = [] ∧ ∀ i, ((mPull n m).1 ++ [(mSample (mPull n m).2.1).1]).getD i 0 = 0
  rw [samp3 e2 e3]
  refine ⟨by simp [e1], e2, e3, by rw [e4]; rfl, fun i => ?_⟩
  rw [getD_snocI]
  split
  ·exact e5 i
  ·split <;> rfl
theorem mPull_begin {m : Mo} {r : Mo × List Nw} (h : mBegin m = some r) (hck : r.1.ck = m.ck) : ∀ n, 1 ≤ n → (mPull n m).1 = (mPull n r.1).1 ∧ (mPull n m).2.1 = (mPull n r.1).2.1 ∧ (mPull n m).2.2 = r.2 ++ (mPull n r.1).2.2
 | 0, hn => by omega
 | 1, _ => by
  have hs := step_begin h
  have e : mSample m = ((mSample r.1).1, (mSample r.1).2.1, r.2 ++ (mSample r.1).2.2) := by
   unfold mSample
   rw [settle_some hs, hck]
   simp only [List.append_assoc]
  refine ⟨?_, ?_, ?_⟩
  ·show [] ++ [(mSample m).1] = [] ++ [(mSample r.1).1]; rw [e]
  ·show (mSample m).2.1 = (mSample r.1).2.1; rw [e]
  ·show [] ++ (mSample m).2.2 = r.2 ++ ([] ++ (mSample r.1).2.2); rw [e]; rfl
 | n + 2, _ => by
  obtain ⟨e1, e2, e3⟩ := mPull_begin h hck (n + 1) (by omega)
  refine ⟨?_, ?_, ?_⟩
  ·show (mPull (n + 1) m).1 ++ [(mSample (mPull (n + 1) m).2.1).1] = (mPull (n + 1) r.1).1 ++ [(mSample (mPull (n + 1) r.1).2.1).1]; rw [e1, e2]
  ·show (mSample (mPull (n + 1) m).2.1).2.1 = (mSample (mPull (n + 1) r.1).2.1).2.1; rw [e2]
  ·show (mPull (n + 1) m).2.2 ++ (mSample (mPull (n + 1) m).2.1).2.2 = r.2 ++ ((mPull (n + 1) r.1).2.2 ++ (mSample (mPull (n + 1) r.1).2.1).2.2); rw [e2, e3, List.append_assoc]
def gsOf (gr : List Gn) : List Gr := (gr.filter okGn).map fun g => ⟨g, false, 0⟩
abbrev rfC (g : Gr) : List V := [I g.g.vo, I g.g.us, I g.g.fr, I g.g.un, I g.g.bu, I g.ud, B g.wd]
theorem gsOf_snoc (l : List Gn) (g : Gn) : gsOf (l ++ [g]) = if okGn g = true then gsOf l ++ [⟨g, false, 0⟩] else gsOf l := by
 unfold gsOf
 rw [List.filter_append]
 by_cases h : okGn g = true
 ·rw [if_pos h, List.filter_cons, if_pos h, List.filter_nil, List.map_append]; rfl
 ·rw [if_neg h, List.filter_cons, if_neg h, List.filter_nil, List.append_nil]
theorem gsOf_len (l : List Gn) : (gsOf l).length ≤ l.length := by
 unfold gsOf; rw [List.length_map]; exact List.length_filter_le _ _
structure RfAt (H : Hp) (wb bW : Nat) (gs : List Gr) : Prop where
 c : H[wb]? = some (.cells [blV 7 bW gs.length])
 d : gs.length ≠ 0 → H[bW]? = some (.cells (gs.flatMap rfC))
 ne : gs.length ≠ 0 → bW ≠ wb
def RfB (wb bW : Nat) (gs : List Gr) (c : Nat) : Prop := c = wb ∨ c = bW ∧ gs.length ≠ 0
theorem RfAt.fr {H H' : Hp} {wb bW : Nat} {gs : List Gr} {S : Nat → Prop} (h : RfAt H wb bW gs) (k : Fr H H' S) (hs : ∀ c, RfB wb bW gs c → ¬ S c) : RfAt H' wb bW gs :=
 ⟨by rw [k.2 _ (get_lt h.c) (hs _ (.inl rfl))]; exact h.c, fun e => by rw [k.2 _ (get_lt (h.d e)) (hs _ (.inr ⟨rfl, e⟩))]; exact h.d e, h.ne⟩
theorem RfAt.lt {H : Hp} {wb bW : Nat} {gs : List Gr} (h : RfAt H wb bW gs) {c : Nat} (hc : RfB wb bW gs c) : c < H.length := by
 rcases hc with rfl | ⟨rfl, e⟩
 ·exact get_lt h.c
 ·exact get_lt (h.d e)
theorem ix_gn (l : List Gn) (f : Fl) (i : Int) {K : V → Prop} : aIx 5 (.arr (l.map gnV) f) (I i) K = (0 ≤ i ∧ i < l.length ∧ K (.cptr (gnV (l.getD i.toNat default)))) := e_ixE gnV default (fun _ => rfl) l f i
structure BegS (H : Hp) (gs : List Gr) (g' bW : Nat) (G : Hp) : Prop where
 ld : LdAt G (H.length + 1) g' gs
 rf : RfAt G (H.length + 2) bW gs
 bx : G[H.length]? = some (.cells [nilP, nilP, nilP])
 g1 : gs ≠ [] → H.length + 3 ≤ g'
 w1 : gs ≠ [] → H.length + 3 ≤ bW
 ne : gs ≠ [] → g' ≠ bW
 lo : ∀ c, c < H.length → G[c]? = H[c]?
 ln : H.length + 3 ≤ G.length
abbrev rs0 (wb : Nat) : List V := [.ptr wb 0, .arr [] .full, I 0, I 1, I 1, I 0, B false, I 0, .arr [] .full, .arr [] .full, I 0, B false, B false]
theorem c58 (wb : Nat) (H : Hp) : RetE Try.prog 58 [.ptr wb 0] H fun v H' => v = .ptr H.length 0 ∧ H' = H ++ [.cells (rs0 wb)] := by
 refine mkE58 _ ?_
 simp only [vc58, real]
 repeat (first | (with_reducible first | refine Ju.go ?_ | (refine Hd.go ?_; intro K Q hK hQ; simp only [e_bd1, okE_I, Nat.zero_add, lv_cons, List.length_nil, Nat.reduceAdd, Nat.reduceLeDiff, cl_imm, spl_0, spl_n, spl_s, e_bd0, true_and, nod_ptr, nod_agg, List.map_cons, nodL_imm, List.map_nil, okE_ptr, cl_ptr, okE_agg, all_c, ck_I, all_n, Bool.and_self, and_true, cl_agg, own0_ptr, nodL_ptr, nodL_arr, nd_full, e_bx, ck_ptr, ck_arr, ck_B]; subst hK hQ) | refine Jr.go ?_) | refine sd ?_)
 exact endW ⟨rfl, rfl⟩
structure Beg (H H' : Hp) (gs : List Gr) (lb sb rb wb bW : Nat) (a : Ad) : Prop where
 sp : SpAt H' sb a (mo0 gs)
 lb : a.lb = lb
 hi : ∀ c, SpS sb a (mo0 gs) c → H.length ≤ c
 fr : Fr H H' (fun _ => False)
 rs : H'[rb]? = some (.cells (rs0 wb))
 rf : RfAt H' wb bW gs
 h1 : H.length ≤ rb ∧ H.length ≤ wb ∧ (gs.length ≠ 0 → H.length ≤ bW)
 d1 : ¬ SpS sb a (mo0 gs) rb
 d2 : ∀ c, RfB wb bW gs c → ¬ SpS sb a (mo0 gs) c
 d3 : ¬ RfB wb bW gs rb
theorem bs_rf (a b c d e u : Int) (w : Bool) (z : V) (K : V → Prop) : aBS 7 1 z [(0, .agg [I a, I b, I c, I d, I e, I u, B w])] K = K (.arr [.agg [I a, I b, I c, I d, I e, I u, B w]] .full) := by
 have h : okE 7 (.agg [I a, I b, I c, I d, I e, I u, B w]) = True := eq_true ⟨rfl, fun x hc => by
  simp only [V.cl, List.mem_cons, List.not_mem_nil, or_false] at hc
  rcases hc with rfl | rfl | rfl | rfl | rfl | rfl | rfl <;> rfl⟩
 simp [aBS, aPs, setP, h]
theorem RfAt.push {H : Hp} {wb bW : Nat} {gs : List Gr} {KH : V → Hp → Prop} (h : RfAt H wb bW gs) (g : Gr) (hb : gs.length ≤ 1000) (k : KH (blV 7 H.length (gs.length + 1)) (killB H bW gs.length ++ [.cells ((gs ++ [g]).flatMap rfC)])) : aAppS 7 56 (blV 7 bW gs.length) (.arr [.agg (rfC g)] .full) H KH := by
 have hone : ∀ e, e ∈ [V.agg (rfC g)] → e.cl.length = 7 ∧ ∀ c, c ∈ e.cl → cellOk c = true := fun e he => by
  simp only [List.mem_singleton] at he
  subst he
  exact ⟨rfl, fun c hc => by
   simp only [V.cl, List.mem_cons, List.not_mem_nil, or_false] at hc
   rcases hc with rfl | rfl | rfl | rfl | rfl | rfl | rfl <;> rfl⟩
 refine app_bl (cs := gs.flatMap rfC) (fun e => by rw [List.length_eq_zero_iff.1 e]; rfl) h.d (by rw [flat_lenF rfC 7 (fun _ => rfl)]) (fun c hc => by
  obtain ⟨y, -, hy⟩ := List.mem_flatMap.1 hc
  simp only [List.mem_cons, List.not_mem_nil, or_false] at hy
  rcases hy with rfl | rfl | rfl | rfl | rfl | rfl | rfl <;> rfl) hone (by rw [List.length_singleton]; omega) (fun _ e => by cases e) (fun _ => ?_)
 have e : gs.flatMap rfC ++ [V.agg (rfC g)].flatMap V.cl = (gs ++ [g]).flatMap rfC := by simp [V.cl]
 rw [e]
 exact k
theorem c21 (gr : List Gn) (H : Hp) (hl : gr.length ≤ 8) : RetE Try.prog 21 [.arr (gr.map gnV) .no] H fun v H' => ∃ lb sb rb wb bW a, v = .tup [.agg [.ptr lb 0, .ptr sb 0, .ptr rb 0], B true] ∧ Beg H H' (gsOf gr) lb sb rb wb bW a := by
 refine mkE21 _ ?_
 simp only [vc21, real]
 repeat (first | (with_reducible first | refine Ju.go ?_ | (refine Hd.go ?_; intro K Q hK hQ; simp only [e_bx, okE_agg, lv_cons, List.length_nil, Nat.zero_add, Nat.reduceAdd, all_c, ck_nilP, all_n, Bool.and_self, and_true, cl_agg, true_and]; subst hK hQ) | refine Jr.go ?_) | refine sd ?_)
 refine callE_of (c26 _) ?_
 rintro v H1 ⟨rfl, rfl⟩
 repeat (first | (with_reducible first | refine Ju.go ?_ | (refine Hd.go ?_; intro K Q hK hQ; simp only [hp_len, hp_len_cons, List.length_nil, Nat.zero_add, nod_ptr, Try.underlying43, e_npeP, nod_imm, e_cond, Bool.false_eq_true, if_false, e_bd0, nod_agg, List.map_cons, nodL_arr, nd_full, List.map_nil, hp_assoc, hp_cons, hp_nil, e_bx, okE_agg, lv_cons, all_c, ck_arr, all_n, Bool.and_self, and_true, Nat.reduceAdd, cl_agg, true_and]; subst hK hQ) | refine Jr.go ?_) | refine sd ?_)
 have hl1 : (H ++ [Blk.cells [nilP, nilP, nilP]]).length = H.length + 1 := by simp
 have I0 : BegS H (gsOf (gr.take 0)) 0 0 (H ++ [Blk.cells [nilP, nilP, nilP], Blk.cells [B true, .arr [] .full], Blk.cells [.arr [] .full]]) := by
  refine ⟨⟨?_, fun e => absurd rfl e, fun e => absurd rfl e⟩, ⟨?_, fun e => absurd rfl e, fun e => absurd rfl e⟩, tail0 _ _, fun e => absurd rfl e, fun e => absurd rfl e, fun e => absurd rfl e, fun c hc => List.getElem?_append_left hc, by simp⟩
  ·rw [List.getElem?_append_right (by omega), Nat.add_sub_cancel_left]; rfl
  ·rw [List.getElem?_append_right (by omega), Nat.add_sub_cancel_left]; rfl
 refine loop_of (fun q : Nat × Nat × Nat × Hp => q.1 ≤ gr.length ∧ BegS H (gsOf (gr.take q.1)) q.2.1 q.2.2.1 q.2.2.2) (fun q => [.arr (gr.map gnV) .no, .ptr H.length 0, .ptr (H.length + 1) 0, .ptr (H.length + 2) 0, I q.1]) (·.2.2.2) (fun q => gr.length - q.1) (0, 0, 0, _) ⟨Nat.zero_le _, I0⟩ rfl rfl ?_
 clear I0
 rintro ⟨i, g', bW, G⟩ ⟨hi, hB⟩
 simp only at hi hB ⊢
 obtain ⟨ld, rf, bx, g1, w1, ne, lo, ln⟩ := hB
 have hgl := gsOf_len (gr.take i)
 rw [List.length_take] at hgl
 repeat (first | (with_reducible first | refine Ju.go ?_ | (refine Hd.go ?_; intro K Q hK hQ; simp only [List.getD_cons_zero, nod_arr, nd_no, e_lenA, List.length_map, List.getD_cons_succ, nod_imm, Try.underlying3, e_lss, e_cond, decide_eq_true_eq]; subst hK hQ) | refine Jr.go ?_) | refine sd ?_)
 by_cases hlt : i < gr.length
 ·have d : (i : Int) < gr.length := by omega
  have hsn := gsOf_snoc (gr.take i) (gr.getD i default)
  rw [← take_snocA gr default hlt] at hsn
  repeat (first | (with_reducible first | refine Ju.go ?_ | (refine Hd.go ?_; intro K Q hK hQ; simp only [d, if_true, List.getD_cons_zero, nod_arr, nd_no, List.getD_cons_succ, nod_imm, ix_gn, Int.toNat_natCast, true_and, nod_cptr, e_ldcA, lv_cons, List.length_nil, Nat.zero_add, Nat.reduceAdd, nod_ptr, nod_agg, List.map_cons, nodL_imm, List.map_nil]; subst hK hQ) | refine Jr.go ?_) | refine sd ?_)
  refine callE_of (c27 (H.length + 1) g' _ (gr.getD i default) G ld (by omega)) ?_
  rintro v G1 hq
  by_cases hok : okGn (gr.getD i default) = true
  ·rw [if_pos hok, if_pos (by omega)] at hq
   obtain ⟨rfl, ⟨g2, ld2, hg2⟩, kf⟩ := hq
   rw [if_pos hok] at hsn
   have sep : ∀ c, RfB (H.length + 2) bW (gsOf (gr.take i)) c ∨ c ≤ H.length → ¬ LdB g' (H.length + 1) (gsOf (gr.take i)) c := fun c hc e => by
    rcases e with e | ⟨e, hn⟩
    ·rcases hc with (hc | ⟨hc, hn⟩) | hc
     ·omega
     ·have := w1 (fun e => hn (by rw [e]; rfl)); omega
     ·omega
    ·have := g1 hn
     rcases hc with (hc | ⟨hc, -⟩) | hc
     ·omega
     ·exact ne hn (by omega)
     ·omega
   have rf1 := rf.fr kf fun c hc => sep c (.inl hc)
   have bx1 : G1[H.length]? = some (.cells [nilP, nilP, nilP]) := by rw [kf.2 _ (by omega) (sep _ (.inr (Nat.le_refl _)))]; exact bx
   have hwl := get_lt rf1.c
   repeat (first | (with_reducible first | refine Ju.go ?_ | (refine Hd.go ?_; intro K Q hK hQ; simp only [nod_tup, List.map_cons, nod2_imm, List.map_nil, e_x20, e_x21, List.getD_cons_zero, List.getD_cons_succ, nod_imm, Try.underlying30, e_eql, decide_true, nod_arr, nd_no, ix_gn, d, Int.toNat_natCast, true_and, nod_cptr, e_ldcA, lv_cons, List.length_nil, Nat.zero_add, Nat.reduceAdd, nod_agg, nodL_imm]; subst hK hQ) | refine Jr.go ?_) | refine sd ?_)
   refine call_of (c57 (gr.getD i default) _) ?_
   rw [hok]
   repeat (first | (with_reducible first | refine Ju.go ?_ | (refine Hd.go ?_; intro K Q hK hQ; simp only [nod_imm, Try.underlying4, e_bne, beq_self_eq_true, Bool.not_true, e_cond, Bool.false_eq_true, if_false, List.getD_cons_zero, nod_arr, nd_no, List.getD_cons_succ, ix_gn, Int.toNat_natCast, nod_cptr, e_ldcA, lv_cons, List.length_nil, Nat.zero_add, Nat.reduceAdd, true_and, nod_agg, List.map_cons, nodL_imm, List.map_nil]; subst hK hQ) | refine Jr.go ?_) | refine sd ?_)
   refine call_of (c57 (gr.getD i default) _) ?_
   rw [hok]
   have hc1 := rf1.c
   have hself : G1.set (H.length + 2) (.cells [blV 7 bW (gsOf (gr.take i)).length]) = G1 := by
    refine List.ext_getElem? fun j => ?_
    by_cases e : H.length + 2 = j
    ·subst e; rw [List.getElem?_set_self hwl]; exact hc1.symm
    ·exact get_ne e
   repeat (first | (with_reducible first | refine Ju.go ?_ | (refine Hd.go ?_; intro K Q hK hQ; simp only [List.getD_cons_zero, List.getD_cons_succ, nod_imm, e_cond, if_true, nod_ptr, e_ncP, e_fa, Nat.add_zero, ldM_at hc1, Nat.zero_add, lv_cons, List.length_nil, Nat.reduceLeDiff, blV_nodL, vs_0, true_and, nod_arr, nd_no, ix_gn, Int.toNat_natCast, nod_cptr, e_ldcA, Nat.reduceAdd, nod_agg, List.map_cons, nodL_imm, List.map_nil, e_bd1, okE_agg, all_c, ck_I, all_n, Bool.and_self, and_true, cl_agg, spl_0, spl_n, e_bd0, bs_rf, nd_full]; subst hK hQ) | refine Jr.go ?_) | refine sd ?_)
   rw [hself]
   refine rf1.push ⟨gr.getD i default, false, 0⟩ (by omega) ?_
   have hne' : ∀ h0 : (gsOf (gr.take i)).length ≠ 0, gsOf (gr.take i) ≠ [] := fun h0 e => h0 (by rw [e]; rfl)
   have hKc : ∀ c, c < G1.length → ((gsOf (gr.take i)).length ≠ 0 → bW ≠ c) → (killB G1 bW (gsOf (gr.take i)).length ++ [Blk.cells ((gsOf (gr.take i) ++ [(⟨gr.getD i default, false, 0⟩ : Gr)]).flatMap rfC)])[c]? = G1[c]? := fun c h1 h2 => by
    rw [List.getElem?_append_left (by rw [killB_len]; exact h1), killB_ne G1 bW _ h2]
   have hKn : (killB G1 bW (gsOf (gr.take i)).length ++ [Blk.cells ((gsOf (gr.take i) ++ [(⟨gr.getD i default, false, 0⟩ : Gr)]).flatMap rfC)])[G1.length]? = some (.cells ((gsOf (gr.take i) ++ [(⟨gr.getD i default, false, 0⟩ : Gr)]).flatMap rfC)) := by
    rw [← killB_len G1 bW (gsOf (gr.take i)).length]; exact tail0 _ _
   have hKl : (killB G1 bW (gsOf (gr.take i)).length ++ [Blk.cells ((gsOf (gr.take i) ++ [(⟨gr.getD i default, false, 0⟩ : Gr)]).flatMap rfC)]).length = G1.length + 1 := by rw [List.length_append, killB_len]; rfl
   generalize killB G1 bW (gsOf (gr.take i)).length ++ [Blk.cells ((gsOf (gr.take i) ++ [(⟨gr.getD i default, false, 0⟩ : Gr)]).flatMap rfC)] = G2 at *
   have hG1 := kf.1
   have hcK : G2[H.length + 2]? = _ := (hKc _ hwl (fun h0 => by have := w1 (hne' h0); omega)).trans hc1
   have hwK := get_lt hcK
   repeat (first | (with_reducible first | refine Ju.go ?_ | (refine Hd.go ?_; intro K Q hK hQ; simp only [List.getD_cons_succ, List.getD_cons_zero, nod_ptr, e_ncP, e_fa, Nat.add_zero, st_at hcK, Nat.zero_add, lv_cons, List.length_nil, Nat.reduceLeDiff, blV_st, blV_ok, blV_cl, spl_0, spl_n, true_and, nod_imm, Try.underlying3, e_add]; subst hK hQ) | refine Jr.go ?_) | refine sd ?_)
   have hg2l : ∀ c, LdB g2 (H.length + 1) (gsOf (gr.take i) ++ [⟨gr.getD i default, false, 0⟩]) c → c < G1.length := fun c hc => by
    rcases hc with rfl | ⟨rfl, hn⟩
    ·exact ld2.len.1
    ·exact ld2.len.2 hn
   have kk : Fr G1 (G2.set (H.length + 2) (.cells [blV 7 G1.length ((gsOf (gr.take i)).length + 1)])) (fun c => c = H.length + 2 ∨ (c = bW ∧ (gsOf (gr.take i)).length ≠ 0)) := by
    refine ⟨by rw [List.length_set, hKl]; omega, fun c hc hn => ?_⟩
    rw [get_ne (fun e => hn (.inl e.symm)), hKc c hc (fun h0 e => hn (.inr ⟨e.symm, h0⟩))]
   refine ⟨(i + 1, g2, G1.length, _), ⟨by show i + 1 ≤ _; omega, ?_⟩, rfl, rfl, by show gr.length - (i + 1) < _; omega⟩
   show BegS H (gsOf (gr.take (i + 1))) g2 G1.length _
   rw [hsn]
   refine ⟨ld2.fr kk fun c hc e => ?_, ⟨?_, fun _ => ?_, fun _ => by omega⟩, ?_, fun _ => by omega, fun _ => by omega, fun _ => ?_, fun c hc => ?_, ?_⟩
   ·rcases e with e | ⟨e, h0⟩
    ·rcases hc with hc | ⟨hc, -⟩
     ·omega
     ·omega
    ·have h3 := w1 (hne' h0)
     rcases hc with hc | ⟨hc, -⟩
     ·omega
     ·have : bW < G.length := rf.lt (.inr ⟨rfl, h0⟩)
      omega
   ·rw [List.getElem?_set_self hwK, List.length_append, List.length_singleton]
   ·rw [get_ne (by omega)]; exact hKn
   ·rw [kk.2 _ (by omega) (fun e => by
     rcases e with e | ⟨e, h0⟩
     ·omega
     ·have := w1 (hne' h0); omega)]
    exact bx1
   ·have := hg2l g2 (.inr ⟨rfl, by simp⟩); omega
   ·rw [kk.2 c (by omega) (fun e => by
     rcases e with e | ⟨e, h0⟩
     ·omega
     ·have := w1 (hne' h0); omega), kf.2 c (by omega) (sep c (.inr (by omega)))]
    exact lo c hc
   ·exact Nat.le_trans (by omega) kk.1
  ·rw [if_neg hok] at hq
   obtain ⟨rfl, rfl⟩ := hq
   rw [if_neg hok] at hsn
   have hokf := Bool.eq_false_iff.2 hok
   repeat (first | (with_reducible first | refine Ju.go ?_ | (refine Hd.go ?_; intro K Q hK hQ; simp only [nod_tup, List.map_cons, nod2_imm, List.map_nil, e_x20, e_x21, List.getD_cons_zero, List.getD_cons_succ, nod_imm, Try.underlying30, e_eql, Int.reduceEq, decide_false, nod_arr, nd_no, ix_gn, d, Int.toNat_natCast, true_and, nod_cptr, e_ldcA, lv_cons, List.length_nil, Nat.zero_add, Nat.reduceAdd, nod_agg, nodL_imm]; subst hK hQ) | refine Jr.go ?_) | refine sd ?_)
   refine call_of (c57 (gr.getD i default) _) ?_
   rw [hokf]
   repeat (first | (with_reducible first | refine Ju.go ?_ | (refine Hd.go ?_; intro K Q hK hQ; simp only [nod_imm, Try.underlying4, e_bne, beq_self_eq_true, Bool.not_true, e_cond, Bool.false_eq_true, if_false, List.getD_cons_zero, nod_arr, nd_no, List.getD_cons_succ, ix_gn, Int.toNat_natCast, nod_cptr, e_ldcA, lv_cons, List.length_nil, Nat.zero_add, Nat.reduceAdd, true_and, nod_agg, List.map_cons, nodL_imm, List.map_nil]; subst hK hQ) | refine Jr.go ?_) | refine sd ?_)
   refine call_of (c57 (gr.getD i default) _) ?_
   rw [hokf]
   repeat (first | (with_reducible first | refine Ju.go ?_ | (refine Hd.go ?_; intro K Q hK hQ; simp only [List.getD_cons_zero, List.getD_cons_succ, nod_imm, e_cond, Bool.false_eq_true, if_false, Try.underlying3, e_add]; subst hK hQ) | refine Jr.go ?_) | refine sd ?_)
   exact ⟨(i + 1, g', bW, _), ⟨by show i + 1 ≤ _; omega, by show BegS H (gsOf (gr.take (i + 1))) _ _ _; rw [hsn]; exact ⟨ld, rf, bx, g1, w1, ne, lo, ln⟩⟩, rfl, rfl, by show gr.length - (i + 1) < _; omega⟩
 ·obtain rfl : i = gr.length := by omega
  have d : ¬ ((gr.length : Nat) : Int) < gr.length := by omega
  rw [List.take_length] at ld rf g1 w1 ne hgl
  repeat (first | (with_reducible first | refine Ju.go ?_ | (refine Hd.go ?_; intro K Q hK hQ; simp only [d, if_false, List.getD_cons_succ, List.getD_cons_zero, nod_ptr]; subst hK hQ) | refine Jr.go ?_) | refine sd ?_)
  refine callE_of (c39 (H.length + 1) g' _ G ld) ?_
  rintro v G1 ⟨rfl, kf1, a, hlb, sp, hS⟩
  repeat (first | (with_reducible first | refine Ju.go ?_ | (refine Hd.go ?_; intro K Q hK hQ; simp only [nod_tup, List.map_cons, nod2_imm, List.map_nil, e_x20, e_x21, List.getD_cons_succ, List.getD_cons_zero, nod_ptr]; subst hK hQ) | refine Jr.go ?_) | refine sd ?_)
  refine callE_of (c58 _ _) ?_
  rintro v G2 ⟨rfl, rfl⟩
  have n2 : ∀ b o, (V.ptr b o).nod2 = V.ptr b o := fun b o => rfl
  have n3 : ∀ n, (V.imm (.int .i64 n)).nod2 = V.imm (.int .i64 n) := fun n => rfl
  have hbx : (G1 ++ [Blk.cells (rs0 (H.length + 2))])[H.length]? = some (.cells [nilP, nilP, nilP]) := get_app (by rw [kf1.2 _ (by omega) (fun e => e)]; exact bx)
  repeat (first | (with_reducible first | refine Ju.go ?_ | (refine Hd.go ?_; intro K Q hK hQ; simp only [List.getD_cons_succ, List.getD_cons_zero, nod_ptr, n2, e_bd1, okE_ptr, Nat.zero_add, lv_cons, List.length_nil, Nat.reduceAdd, Nat.reduceLeDiff, cl_ptr, spl_0, spl_n, spl_s, e_bd0, true_and, nod_imm, Try.underlying30, e_eql, decide_true, Try.underlying44, e_npnP, e_gT, cond_true, j_one, own0_ptr, st_at hbx, stV_agg, List.map_cons, nodL_ptr, List.map_nil, okE_agg, all_c, ck_ptr, all_n, Bool.and_self, and_true, cl_agg]; subst hK hQ) | refine Jr.go ?_) | refine sd ?_)
  have hbl : H.length < (G1 ++ [Blk.cells (rs0 (H.length + 2))]).length := get_lt hbx
  refine res_at (List.getElem?_set_self hbl) (Nat.le_refl _) ?_
  have hG1 := kf1.1
  have kA : Fr G1 ((G1 ++ [Blk.cells (rs0 (H.length + 2))]).set H.length (.cells [.ptr (H.length + 1) 0, .ptr (G.length + 2) 0, .ptr G1.length 0])) (fun c => c = H.length) := (Fr.app G1 _ _).trans (Fr.set _ _ _ rfl)
  have hSg : ∀ c, c < G.length → SpS (G.length + 2) a (mo0 (gsOf gr)) c → H.length + 1 ≤ c := fun c hc hs => by
   rcases hS c hc hs with e | ⟨e, hn⟩
   ·omega
   ·have := g1 hn; omega
  have hS1 : ∀ c, SpS (G.length + 2) a (mo0 (gsOf gr)) c → H.length + 1 ≤ c ∧ c < G1.length := fun c hs => by
   refine ⟨?_, sp.lt hs⟩
   by_cases hc : c < G.length
   ·exact hSg c hc hs
   ·omega
  have rfS : ∀ c, RfB (H.length + 2) bW (gsOf gr) c → ¬ SpS (G.length + 2) a (mo0 (gsOf gr)) c := fun c hc hs => by
   have hcl := rf.lt hc
   rcases hS c hcl hs with e | ⟨e, hn⟩
   ·rcases hc with hc | ⟨hc, h0⟩
    ·omega
    ·have := w1 (fun e => h0 (by rw [e]; rfl)); omega
   ·have h1 := g1 hn
    rcases hc with hc | ⟨hc, h0⟩
    ·omega
    ·exact ne hn (by omega)
  refine endW ⟨H.length + 1, G.length + 2, G1.length, H.length + 2, bW, a, rfl, sp.fr kA fun c hc e => by have := (hS1 c hc).1; omega, ?_, fun c hs => by have := (hS1 c hs).1; omega, ⟨by have := kA.1; omega, fun c hc _ => ?_⟩, ?_, ?_, ⟨by omega, by omega, fun h0 => by have := w1 (fun e => h0 (by rw [e]; rfl)); omega⟩, fun hs => by have := (hS1 _ hs).2; omega, rfS, fun e => by have := rf.lt e; omega⟩
  ·exact hlb
  ·rw [kA.2 c (by omega) (by omega), kf1.2 c (by omega) (fun e => e)]; exact lo c hc
  ·rw [get_ne (by omega)]; exact tail0 _ _
  ·exact (rf.fr kf1 fun c _ e => e).fr kA fun c hc e => by
    rcases hc with hc | ⟨hc, h0⟩
    ·omega
    ·have := w1 (fun e => h0 (by rw [e]; rfl)); omega
theorem tms1 (i : Nat) : tms ⟨1, 1⟩ i = 1 := by
 unfold tms
 simp
theorem osN1 {p : Spc} (h : okSp p = true) : ∀ i, i ≤ p.pe.length → osN p ⟨1, 1⟩ i = p.sm.take (bnd p i).toNat
 | 0, _ => rfl
 | i + 1, hi => by
  have b0 := bnd_le h i
  have bm := bnd_mono (j := i + 1) h (Nat.le_succ i)
  have e : bnd p i = p.pe.getD i 0 := if_pos (by omega)
  show osN p ⟨1, 1⟩ i ++ (List.replicate (tms ⟨1, 1⟩ i) (cutI p i)).flatten = _
  rw [tms1, osN1 h i (by omega)]
  simp only [List.replicate_one, List.flatten_cons, List.flatten_nil, List.append_nil]
  unfold cutI
  rw [perTo_bnd, ← e]
  have : p.sm.take (bnd p i).toNat = (p.sm.take (bnd p (i + 1)).toNat).take (bnd p i).toNat := by rw [List.take_take, Nat.min_eq_left (by omega)]
  rw [this, List.take_append_drop]
theorem pac1 {p : Spc} (h : okSp p = true) : pacS p ⟨1, 1⟩ = p.sm := by
 rw [pacS_eq ⟨1, 1⟩ h, osN1 h _ (Nat.le_refl _), show bnd p p.pe.length = p.sm.length from if_neg (Nat.lt_irrefl _), Int.toNat_natCast, List.take_length]
def gF (p : Spc) : Gn := ⟨p.vo, 0, 0, 1099511627776, 1099511627776⟩
def mF (p : Spc) : Mo := mIns 0 p (mo0 [⟨gF p, false, 0⟩])
theorem mF_begin {p : Spc} (h : okSp p = true) (h0 : p.ef = 0) : ∃ m, mBegin (mF p) = some (m, [nwE (mF p) 1 0]) ∧ m.q = [] ∧ m.st = 1 ∧ m.os = p.sm ∧ m.sd = 0 ∧ m.ck = 0 := by
 have hl := okSp.len h
 have hf : fnd [⟨gF p, false, 0⟩] p.vo p.us (pacS p ⟨1, 1⟩).length 0 = 0 := by
  rw [pac1 h]
  refine idxI_at _ _ 0 _ rfl ?_ (fun j y hj => absurd hj (Nat.not_lt_zero _))
  unfold prm gF
  simp only [decide_true, Bool.not_true, Bool.false_or, Bool.false_and, Bool.not_false, Bool.true_and, Bool.and_eq_true, Bool.not_eq_true', Bool.or_eq_false_iff, decide_eq_false_iff_not]
  omega
 refine ⟨{ mF p with q := [], gs := tkG [⟨gF p, false, 0⟩] p.vo p.us (pacS p ⟨1, 1⟩).length 0, st := 1, os := pacS p ⟨1, 1⟩, sg := pacG p ⟨1, 1⟩, nn := 0, sd := 0 }, ?_, rfl, rfl, pac1 h, rfl, rfl⟩
 ·have e : mBegin (mF p) = if (mF p).st ≠ 0 ∨ (0 : Int) < p.ef then none else if fnd [⟨gF p, false, 0⟩] p.vo p.us (pacS p ⟨1, 1⟩).length 0 < 0 then some ({ mF p with q := [] }, [nwE (mF p) 4 0]) else some ({ mF p with q := [], gs := tkG [⟨gF p, false, 0⟩] p.vo p.us (pacS p ⟨1, 1⟩).length 0, st := 1, os := pacS p ⟨1, 1⟩, sg := pacG p ⟨1, 1⟩, nn := 0, sd := 0 }, [nwE (mF p) 1 0]) := rfl
  rw [e, if_neg (by rw [h0]; rintro (e | e); exact e rfl; omega), if_neg (by rw [hf]; decide)]
theorem fade_abs {x : Int} {n i : Nat} (hi : i < n) : let y := (x * ((n : Int) - i)).tdiv ((n : Int) + 1); y.natAbs ≤ x.natAbs ∧ 0 ≤ y * x := by
 intro y
 have h1 : y.natAbs = (x * ((n : Int) - i)).natAbs / ((n : Int) + 1).natAbs := Int.natAbs_tdiv _ _
 have hk : ((n : Int) - i).natAbs ≤ ((n : Int) + 1).natAbs := by omega
 have hc : 0 < ((n : Int) + 1).natAbs := by omega
 refine ⟨?_, ?_⟩
 ·rw [h1, Int.natAbs_mul]
  exact Nat.div_le_of_le_mul (by rw [Nat.mul_comm ((n : Int) + 1).natAbs]; exact Nat.mul_le_mul_left _ hk)
 ·by_cases hx : 0 ≤ x
  ·have h2 : 0 ≤ x * ((n : Int) - i) := Int.mul_nonneg hx (by omega)
   have : 0 ≤ y := by show 0 ≤ (x * ((n : Int) - i)).tdiv ((n : Int) + 1); rw [Int.tdiv_eq_ediv_of_nonneg h2]; exact Int.ediv_nonneg h2 (by omega)
   exact Int.mul_nonneg this hx
  ·have h2 : 0 ≤ -x * ((n : Int) - i) := Int.mul_nonneg (by omega) (by omega)
   have e : y = -((-x * ((n : Int) - i)).tdiv ((n : Int) + 1)) := by show (x * ((n : Int) - i)).tdiv ((n : Int) + 1) = _; rw [Int.neg_mul, Int.neg_tdiv, Int.neg_neg]
   have h3 : 0 ≤ (-x * ((n : Int) - i)).tdiv ((n : Int) + 1) := by rw [Int.tdiv_eq_ediv_of_nonneg h2]; exact Int.ediv_nonneg h2 (by omega)
   rw [e, Int.neg_mul, ← Int.mul_neg]
   exact Int.mul_nonneg h3 (by omega)
theorem fade_law {p : Spc} (h : okSp p = true) (h0 : p.ef = 0) (b f N : Nat) (hL : p.sm.length ≤ N) (hN : 0 < N) {m2 m3 : Mo} {xs ys : List Int} {ns : List Nw}
    (e2' : m2 = (mPull b (mF p)).2.1) (e3' : m3 = mStop f m2) (ex : xs = (mPull N m3).1) (ey : ys = (mPull N m2).1) (en : ns = (mPull N m3).2.2) :
    xs.length = N ∧ ys.length = N ∧
    (¬ (0 < b ∧ b + f < p.sm.length) → xs = ys ∧ ∀ y, y ∈ ns → ¬ (y.k = 5 ∧ y.a = b + f)) ∧
    (0 < b ∧ b + f < p.sm.length → (∀ i, i < N → (f ≤ i → xs.getD i 0 = 0) ∧ (i < f → (xs.getD i 0).natAbs ≤ (ys.getD i 0).natAbs ∧ 0 ≤ xs.getD i 0 * ys.getD i 0 ∧ -32768 ≤ ys.getD i 0 ∧ ys.getD i 0 ≤ 32767)) ∧ ∃ y, y ∈ ns ∧ y.k = 5 ∧ y.a = b + f) := by
  subst e3'
  obtain ⟨m, hb, mq, ms, mo, md, mc⟩ := mF_begin h h0
  have hck : m.ck = (mF p).ck := mc
  have pl := play mq (by rw [ms]; decide) (by rw [md]; exact Nat.zero_le _)
  by_cases hb0 : b = 0
  · subst hb0
    have e2 : m2 = mF p := e2'
    have e3 : mStop f m2 = m2 := by rw [e2]; exact if_pos (.inl rfl)
    have e4 := mPull_begin hb hck N hN
    have p100 := pl N
    have exs : xs = ys := by rw [ex, ey, e3]
    have hyl : ys.length = N := by rw [ey, e2, e4.1]; exact p100.len
    refine ⟨by rw [exs]; exact hyl, hyl, fun _ => ⟨exs, fun y hy hk => ?_⟩, fun hc => by omega⟩
    have hy' : y ∈ (mPull N (mF p)).2.2 := by
      have : ns = (mPull N (mF p)).2.2 := by rw [en, e3, e2]
      rw [← this]; exact hy
    rw [e4.2.2] at hy'
    rcases List.mem_append.1 hy' with hy' | hy'
    · simp only [List.mem_singleton] at hy'
      subst hy'
      have : (1 : Int) = 5 := hk.1
      omega
    · have := (p100.n5 y hy' hk.1).1
      rw [ms] at this
      exact absurd this (by decide)
  · have e4 := mPull_begin hb hck b (by omega)
    have pb := pl b
    have e2 : m2 = (mPull b m).2.1 := e2'.trans e4.2.1
    have hq2 : m2.q = [] := by rw [e2]; exact pb.q
    have hck2 : m2.ck = b := by rw [e2, pb.ck, mc]; omega
    by_cases hbL : b ≤ p.sm.length
    · obtain ⟨a1, a2, a3⟩ := pb.a (by rw [md, mo]; omega)
      rw [← e2] at a1 a2 a3
      rw [ms] at a1
      rw [mo] at a2
      rw [md, Nat.zero_add] at a3
      have st2 : m2.st ≠ 0 := by rw [a1]; decide
      have py := play hq2 st2 (by rw [a2, a3]; exact hbL) N
      by_cases hc : b + f < p.sm.length
      · have e3 : mStop f m2 = { m2 with os := m2.os.take m2.sd ++ fdL m2.os m2.sd f, sg := m2.sg.filter fun g => decide (g.a < (m2.sd + f : Nat)), st := 2 } := if_neg (by rw [a2, a3]; rintro (e | e); exact st2 e; omega)
        have sd3 : (mStop f m2).sd = b := by rw [e3]; exact a3
        have os3 : (mStop f m2).os = p.sm.take b ++ fdL p.sm b f := by rw [e3]; show m2.os.take m2.sd ++ fdL m2.os m2.sd f = _; rw [a2, a3]
        have st3 : (mStop f m2).st = 2 := by rw [e3]
        have ol3 : (mStop f m2).os.length = b + f := by rw [os3, List.length_append, List.length_take, fdL_len]; omega
        have ck3 : (mStop f m2).ck = b := by rw [e3]; exact hck2
        have px := play (m := mStop f m2) (by rw [e3]; exact hq2) (by rw [st3]; decide) (by rw [sd3, ol3]; omega) N
        refine ⟨by rw [ex]; exact px.len, by rw [ey]; exact py.len, fun hn => absurd ⟨by omega, hc⟩ hn, fun _ => ⟨fun i hi => ⟨fun hfi => ?_, fun hfi => ?_⟩, ?_⟩⟩
        · rw [ex, px.x i hi, sd3, List.getD_eq_getElem?_getD, List.getElem?_eq_none (by omega)]; rfl
        · have exi : xs.getD i 0 = (p.sm.getD (b + i) 0 * ((f : Int) - i)).tdiv ((f : Int) + 1) := by
            rw [ex, px.x i hi, sd3, os3, List.getD_eq_getElem?_getD, List.getElem?_append_right (by rw [List.length_take]; omega), List.length_take, Nat.min_eq_left hbL, Nat.add_sub_cancel_left, ← List.getD_eq_getElem?_getD, fdL_get _ _ _ _ hfi]
          have eyi : ys.getD i 0 = p.sm.getD (b + i) 0 := by
            rw [ey, py.x i hi, a2, a3]
          have := fade_abs (x := p.sm.getD (b + i) 0) hfi
          have hr := okSp.sm h _ (hMem p.sm (show b + i < p.sm.length by omega))
          rw [exi, eyi]
          exact ⟨this.1, this.2, hr.1, hr.2⟩
        · obtain ⟨y, hy, hk, ha⟩ := px.m5 (by rw [sd3, ol3]; omega) st3
          refine ⟨y, by rw [en]; exact hy, hk, ?_⟩
          rw [ha, ck3, sd3, ol3]; omega
      · have e3 : mStop f m2 = m2 := if_pos (.inr (by rw [a2, a3]; omega))
        have exs : xs = ys := by rw [ex, ey, e3]
        refine ⟨by rw [ex, e3]; exact py.len, by rw [ey]; exact py.len, fun _ => ⟨exs, fun y hy hk => ?_⟩, fun hn => absurd hn.2 hc⟩
        have hy' : y ∈ (mPull N m2).2.2 := by
          have : ns = (mPull N m2).2.2 := by rw [en, e3]
          rw [← this]; exact hy
        have := (py.n5 y hy' hk.1).1
        rw [a1] at this
        exact absurd this (by decide)
    · have st2 : m2.st = 0 := by rw [e2]; exact pb.b (by rw [md, mo]; omega)
      have e3 : mStop f m2 = m2 := if_pos (.inl st2)
      obtain ⟨q1, -, -, q4, q5⟩ := quiet hq2 st2 N
      have exs : xs = ys := by rw [ex, ey, e3]
      refine ⟨by rw [ex, e3]; exact q1, by rw [ey]; exact q1, fun _ => ⟨exs, fun y hy _ => ?_⟩, fun hn => by omega⟩
      have : ns = [] := by rw [en, e3]; exact q4
      rw [this] at hy
      cases hy
end Go.Proofs.Ytlnjhnemmemloaa
