/- The best breaks of a sentence, or the error: true for every input. -/
import Derived.Test.YtgicpobploinhaaP6
import Derived.Test.YtgicpobploinhaaProg
import Derived.Test.YtgicpobploinhaaRows
set_option linter.unusedVariables false
set_option maxRecDepth 20000
set_option maxHeartbeats 4000000
namespace Go.Proofs.Ytgicpobploinhaa
open Go Go.Ab Go.Proofs
def an6 : An := { imm := [], jn := [(2, [0, 1, 27]), (4, [0, 1, 5, 6, 7]), (5, [0, 1, 5, 6, 7, 43]), (6, [0, 1, 5, 6, 7])], lp := [], loud := [], ord := [] }
def vc6 (C : Cb) (a0 a1 : V) (H : Hp) (R : List V → Hp → Prop) : Prop :=
 Jn (fun l1 H2 =>
 aCond (l1.getD 2 .junk).nod (
 C.callE 15 [] H2 fun v4 H5 =>
 R [v4] H5) (
 Jn (fun l6 H7 =>
 Jn (fun l9 H10 =>
 C.callE 29 [(l9.getD 0 .junk).nod.nod, (l9.getD 1 .junk).nod.nod] H10 fun v12 H13 =>
 C.aExt 0 v12.nod.nod fun v14 =>
 C.aExt 1 v12.nod.nod fun v15 =>
 C.aBin (Try.prog.underlying 28) .eql (l9.getD 4 .junk).nod.nod (I 0) fun v16 =>
 Jv (fun v17 H18 =>
 Jv (fun v22 H23 =>
 Jv (fun v27 H28 =>
 R [v27] H28)
 (fun R29 =>
 aG v22.nod true (
 C.callE 15 [] H23 fun v30 H31 =>
 R29 v30.nod H31) (
 R29 (B false) H23)))
 (fun R24 =>
 aG v17.nod true (
 C.callE 25 [(l9.getD 3 .junk).nod.nod, v15.nod.nod] H18 fun v25 H26 =>
 R24 v25.nod H26) (
 R24 (B false) H18)))
 (fun R19 =>
 aG v16.nod true (
 C.callE 25 [(l9.getD 2 .junk).nod.nod, v14.nod.nod] H13 fun v20 H21 =>
 R19 v20.nod H21) (
 R19 (B false) H13)))
 (fun R11 =>
 Jn (fun l32 H33 =>
 aCond (l32.getD 5 .junk).nod (
 C.aBin (Try.prog.underlying 28) .eql (l32.getD 4 .junk).nod.nod (I 2) fun v35 =>
 Jv (fun v36 H37 =>
 Jv (fun v43 H44 =>
 R [v43] H44)
 (fun R45 =>
 aG v36.nod true (
 C.callE 15 [] H37 fun v46 H47 =>
 R45 v46.nod H47) (
 R45 (B false) H37)))
 (fun R38 =>
 aG v35.nod true (
 C.aLen (l32.getD 2 .junk).nod.nod fun v39 =>
 C.aLen (l32.getD 3 .junk).nod.nod fun v40 =>
 C.aBin (Try.prog.underlying 3) .add v39.nod v40.nod fun v41 =>
 C.aBin (Try.prog.underlying 3) .eql v41.nod (I 0) fun v42 =>
 R38 v42.nod H33) (
 R38 (B false) H33))) (
 R11 [(l32.getD 0 .junk), (l32.getD 1 .junk), (l32.getD 2 .junk), (l32.getD 3 .junk), (l32.getD 4 .junk)] H33))
 (fun R34 =>
 C.callE 27 [(l6.getD 0 .junk).nod.nod] H7 fun v48 H49 =>
 C.aUn .not v48.nod fun v50 =>
 Jv (fun v51 H52 =>
 R34 [(l6.getD 0 .junk), (l6.getD 1 .junk), (l6.getD 2 .junk), (l6.getD 3 .junk), (l6.getD 4 .junk), v51] H52)
 (fun R53 =>
 aG v50.nod false (
 C.callE 28 [(l6.getD 1 .junk).nod.nod] H49 fun v54 H55 =>
 C.aUn .not v54.nod fun v56 =>
 R53 v56.nod H55) (
 R53 (B true) H49)))))
 (fun R8 =>
 C.callE 26 [(l1.getD 0 .junk).nod.nod, (l1.getD 1 .junk).nod.nod] H2 fun v57 H58 =>
 C.aExt 0 v57.nod.nod fun v59 =>
 C.aExt 1 v57.nod.nod fun v60 =>
 C.aExt 2 v57.nod.nod fun v61 =>
 R8 [(l1.getD 0 .junk), (l1.getD 1 .junk), v59, v60, v61] H58)))
 (fun R3 =>
 C.aLen a0.nod.nod fun v62 =>
 C.aBin (Try.prog.underlying 3) .gtr v62.nod (I 7) fun v63 =>
 Jv (fun v64 H65 =>
 Jv (fun v69 H70 =>
 Jv (fun v74 H75 =>
 R3 [a0, a1, v74] H75)
 (fun R76 =>
 aG v69.nod false (
 C.aLen a1.nod.nod fun v77 =>
 C.aBin (Try.prog.underlying 3) .gtr v77.nod (I 30) fun v78 =>
 R76 v78.nod H70) (
 R76 (B true) H70)))
 (fun R71 =>
 aG v64.nod false (
 C.aLen a0.nod.nod fun v72 =>
 C.aBin (Try.prog.underlying 3) .gtr v72.nod (I 100) fun v73 =>
 R71 v73.nod H65) (
 R71 (B true) H65)))
 (fun R66 =>
 aG v63.nod true (
 C.aLen a0.nod.nod fun v67 =>
 C.aBin (Try.prog.underlying 3) .leq v67.nod (I 60) fun v68 =>
 R66 v68.nod H) (
 R66 (B false) H)))
theorem wf6 : (Nat.ble 2 Try.f6.ntmps && wfC an6 Try.f6.ntmps (Try.f6.body.getD .skip)) = true := by kernel_rfl
theorem tie6 (C : Cb) (a0 a1 : V) (H : Hp) (R : List V → Hp → Prop) : wpG Try.prog C an6 (Try.f6.body.getD .skip) (argF [a0, a1]) H (retG Try.prog C Try.f6 R) (fun _ _ _ => False) (retG Try.prog C Try.f6 R) = vc6 C a0 a1 H R := by kernel_rfl
theorem mk6 (a0 a1 : V) {H : Hp} {v : V} {H1 : Hp} (hd : v.Nd) (hn : H.length ≤ H1.length) (hb : H1 = H ∨ ∀ (b : Nat) (blk : Blk), H1[b]? = some blk → H[b]? = some blk ∨ BelB H1.length blk) (h : vc6 (real Try.prog) a0 a1 H (retF v H1)) : Ret Try.prog 6 [a0, a1] H v H1 :=
 ret_mk (an := an6) hm Try.call6 Try.func6 rfl wf6 hd hn hb (Eq.mpr (tie6 (real Try.prog) a0 a1 H (retF v H1)) h)
theorem mkE6 (a0 a1 : V) {H : Hp} {Q : V → Hp → Prop} (h : vc6 (real Try.prog) a0 a1 H (retW Q)) : RetE Try.prog 6 [a0, a1] H Q :=
 retE_mk (an := an6) hm Try.call6 Try.func6 rfl wf6 (Eq.mpr (tie6 (real Try.prog) a0 a1 H (retW Q)) h)
theorem mko6 (a0 a1 : V) {H : Hp} {xs : List V} {H1 : Hp} (hn : H.length ≤ H1.length) (hb : H1 = H ∨ ∀ (b : Nat) (blk : Blk), H1[b]? = some blk → H[b]? = some blk ∨ BelB H1.length blk) (h : vc6 (real Try.prog) a0 a1 H (retO xs H1)) : Ret Try.prog 6 [a0, a1] H (.arr xs .own) H1 :=
 ret_mko (an := an6) (t := 4) hm Try.call6 Try.func6 rfl wf6 rfl hn hb (Eq.mpr (tie6 (real Try.prog) a0 a1 H (retO xs H1)) h)
end Go.Proofs.Ytgicpobploinhaa
set_option linter.unusedSimpArgs false
set_option linter.unnecessarySimpa false
set_option maxHeartbeats 2000000
namespace Go.Proofs.Ytgicpobploinhaa
open Go Go.Ab Go.Proofs
attribute [local congr] g_bin g_nilS g_nilP g_un g_ext g_bx g_fa g_ld g_st g_ix g_ixA g_slc g_mk g_bs g_bd g_nc g_cv g_len g_lenT g_app g_appB g_cpy g_mm g_call g_callG g_calm g_calmG g_range g_res g_pick g_cond g_loop g_Jv g_eqS g_eqP g_fd g_ixT g_ta g_lkp g_upd g_mkM g_appS g_inv g_callE g_callEG g_invE g_zr g_wr
theorem c6 (ws : List Wd) (rs : List Rk) (H : Hp) (w0 : ws.length ≤ 9223372036854775807) (w1 : rs.length ≤ 9223372036854775807) : Ret Try.prog 6 [.arr (ws.map wdV) .no, .arr (rs.map rkV) .no] H (B true) H := by
 refine mk6 _ _ rfl (Nat.le_refl _) (.inl rfl) ?_
 simp only [vc6, real]
 repeat (first | (with_reducible first | refine Ju.go ?_ | (refine Hd.go ?_; intro K Q hK hQ; simp only [nod_arr, nd_no, e_lenA, List.length_map, nod_imm, Try.underlying3, e_gtr, e_leq, e_gT, j_and', j_one, e_gF, j_or', List.getD_cons_succ, List.getD_cons_zero, e_cond]; subst hK hQ) | refine Jr.go ?_) | refine sd ?_)
 have h7 : (decide (7 < (ws.length : Int)) && decide ((ws.length : Int) ≤ 60) || decide (100 < (ws.length : Int)) || decide (30 < (rs.length : Int))) = false → okWs ws = true → ws.length ≤ 7 := fun h hw => by
  have := (okWs_p hw).1
  simp only [Bool.or_eq_false_iff, Bool.and_eq_false_iff, decide_eq_false_iff_not] at h
  omega
 generalize (decide (7 < (ws.length : Int)) && decide ((ws.length : Int) ≤ 60) || decide (100 < (ws.length : Int)) || decide (30 < (rs.length : Int))) = D at *
 cases D
 ·have h7 := h7 rfl
  have c1 := c26' ws rs H w0 w1
  unfold brV at c1
  repeat (first | (with_reducible first | refine Ju.go ?_ | (refine Hd.go ?_; intro K Q hK hQ; simp only [Bool.false_eq_true, if_false, List.getD_cons_zero, nod_arr, nd_no, List.getD_cons_succ]; subst hK hQ) | refine Jr.go ?_) | refine sd ?_)
  refine call_of c1 ?_
  cases hok : (okWs ws && okRs rs)
  ·rw [if_neg (by decide)]
   repeat (first | (with_reducible first | refine Ju.go ?_ | (refine Hd.go ?_; intro K Q hK hQ; simp only [nod_tup, List.map_cons, nod2_ints, nd_no, nod2_imm, List.map_nil, e_x30, e_x31, e_x32, List.getD_cons_zero, List.getD_cons_succ, nod_arr]; subst hK hQ) | refine Jr.go ?_) | refine sd ?_)
   refine call_of (c27 ws H w0) ?_
   repeat (first | (with_reducible first | refine Ju.go ?_ | (refine Hd.go ?_; intro K Q hK hQ; simp only [nod_imm, e_not, List.getD_cons_succ, List.getD_cons_zero, nod_arr, nd_no, e_gF]; subst hK hQ) | refine Jr.go ?_) | refine sd ?_)
   refine jo_n (c28 rs H w1) ?_
   rw [← Bool.not_and, hok]
   repeat (first | (with_reducible first | refine Ju.go ?_ | (refine Hd.go ?_; intro K Q hK hQ; simp only [Bool.not_false, List.getD_cons_zero, List.getD_cons_succ, nod_imm, e_cond, if_true, e_eql, decide_true, nod_ints, nd_no, Try.underlying3, e_len, List.length_nil, Int.cast_ofNat_Int, e_add, e_gT, cond_true, j_side, j_one]; subst hK hQ) | refine Jr.go ?_) | refine sd ?_)
   refine call_of (c15 _) ?_
   repeat (first | (with_reducible first | refine Ju.go ?_ | (refine Hd.go ?_; intro K Q hK hQ; simp only [nod_imm]; subst hK hQ) | refine Jr.go ?_) | refine sd ?_)
   exact end1 (fzI _)
  ·rw [if_pos rfl]
   have hok2 := hok
   rw [Bool.and_eq_true] at hok2
   obtain ⟨hw, hr⟩ := hok2
   have hrl := (okRs_p hr).1
   have hb := okBr_iff.1 (bB_ok ws rs)
   have hv := vios_len ws (bB ws rs) rs
   have c2 := c29 ws rs H hw hr (h7 hw)
   have c3 := c25 (bB ws rs) (bB ws rs) .no .no H (by have := h7 hw; omega) (.inl rfl) (.inl rfl)
   have c4 := c25 (vios ws (bB ws rs) rs) (vios ws (bB ws rs) rs) .no .no H (by omega) (.inl rfl) (.inl rfl)
   rw [decide_eq_true rfl] at c3 c4
   repeat (first | (with_reducible first | refine Ju.go ?_ | (refine Hd.go ?_; intro K Q hK hQ; simp only [nod_tup, List.map_cons, nod2_ints, nd_no, nod2_imm, List.map_nil, e_x30, e_x31, e_x32, List.getD_cons_zero, List.getD_cons_succ, nod_arr]; subst hK hQ) | refine Jr.go ?_) | refine sd ?_)
   refine call_of (c27 ws H w0) ?_
   repeat (first | (with_reducible first | refine Ju.go ?_ | (refine Hd.go ?_; intro K Q hK hQ; simp only [nod_imm, e_not, List.getD_cons_succ, List.getD_cons_zero, nod_arr, nd_no, e_gF]; subst hK hQ) | refine Jr.go ?_) | refine sd ?_)
   refine jo_n (c28 rs H w1) ?_
   rw [← Bool.not_and, hok]
   repeat (first | (with_reducible first | refine Ju.go ?_ | (refine Hd.go ?_; intro K Q hK hQ; simp only [Bool.not_true, List.getD_cons_zero, List.getD_cons_succ, nod_imm, e_cond, Bool.false_eq_true, if_false, nod_arr, nd_no]; subst hK hQ) | refine Jr.go ?_) | refine sd ?_)
   refine call_of c2 ?_
   repeat (first | (with_reducible first | refine Ju.go ?_ | (refine Hd.go ?_; intro K Q hK hQ; simp only [nod_tup, List.map_cons, nod2_ints, nd_no, List.map_nil, e_x20, e_x21, List.getD_cons_succ, List.getD_cons_zero, nod_imm, e_eql, decide_true, nod_ints, e_gT, cond_true]; subst hK hQ) | refine Jr.go ?_) | refine sd ?_)
   refine call_of c3 ?_
   repeat (first | (with_reducible first | refine Ju.go ?_ | (refine Hd.go ?_; intro K Q hK hQ; simp only [nod_imm, List.getD_cons_succ, List.getD_cons_zero, nod_ints, nd_no, e_gT, cond_true]; subst hK hQ) | refine Jr.go ?_) | refine sd ?_)
   refine call_of c4 ?_
   repeat (first | (with_reducible first | refine Ju.go ?_ | (refine Hd.go ?_; intro K Q hK hQ; simp only [nod_imm, e_gT, cond_true]; subst hK hQ) | refine Jr.go ?_) | refine sd ?_)
   refine call_of (c15 _) ?_
   repeat (first | (with_reducible first | refine Ju.go ?_ | (refine Hd.go ?_; intro K Q hK hQ; simp only [nod_imm]; subst hK hQ) | refine Jr.go ?_) | refine sd ?_)
   exact end1 (fzI _)
 ·repeat (first | (with_reducible first | refine Ju.go ?_ | (refine Hd.go ?_; intro K Q hK hQ; simp only [if_true]; subst hK hQ) | refine Jr.go ?_) | refine sd ?_)
  refine call_of (c15 _) ?_
  repeat (first | (with_reducible first | refine Ju.go ?_ | (refine Hd.go ?_; intro K Q hK hQ; simp only []; subst hK hQ) | refine Jr.go ?_) | refine sd ?_)
  exact end1 (fzI _)
open Go.ChangeShapes Go.WideShapes Go.ChangeAt Go.RowKit
theorem own : ownKnob Try.prog.godebug = none := by kernel_rfl
theorem laidOut : laidOutB Try.prog = true := by kernel_rfl
set_option maxRecDepth 100000 in
theorem lifted (os : Os) (started : os.Started) (H : Type) (enc : TypeId × Value → H) :
    ReturnsInHanded {} Try.checked os 6 .any (Rows.prosodyBreaksSpec.pre6 enc Try.prog Try.f6 Rows.prosodyBreaksRow.domain false) (Rows.prosodyBreaksSpec.post enc Try.prog Try.f6 false true false false) := by
  refine returnsInHanded_of_change (C := Try.checked) own started (by kernel_rfl) Try.func6
    (ChangeSpec.witness6 (enc := enc) (C := Try.checked) false ⟨#[], #[.slice none 0 0, .slice none 0 0], []⟩ 8 (by kernel_rfl) (by kernel_rfl) (by kernel_rfl) (by kernel_rfl)) ?_
  intro W base args ds gs before hval0 hW hcnd _
  have hval : ∀ (j : Nat) t v, Try.f6.params[j]? = some t → args[j]? = some v → Value.okWide Try.prog W .any base t v := hval0
  have hW' := hW
  obtain ⟨p, q, hA0, hV, rfl, hfz, hnd⟩ := hW
  have hA : DataW.TrodAll enc Try.prog W 0 (fun _ => true) true Try.f6.params.toList args.toList ds p := hA0
  rw [Try.params6] at hA hval
  obtain ⟨v0, vs0, d0, ds0, p0, q0, hargs, rfl, rfl, h0, r0⟩ := trodAll_cons hA
  obtain ⟨v1, vs1, d1, ds1, p1, q1, rfl, rfl, rfl, h1, r1⟩ := trodAll_cons r0
  obtain ⟨rfl, rfl, rfl⟩ := trodAll_nil r1
  obtain rfl : args = #[v0, v1] := by cases args; simp_all
  obtain ⟨rfl, rfl⟩ := trodVars_none hV
  have lt0 : ∀ x ∈ p0, x.block < W.heap.size := by obtain ⟨m, hm⟩ := h0; exact DataW.trod_lt m _ _ _ hm
  obtain ⟨l0, w0, e0⟩ := in_words (hval 0 _ v0 rfl rfl) h0
  have lt1 : ∀ x ∈ p1, x.block < W.heap.size := by obtain ⟨m, hm⟩ := h1; exact DataW.trod_lt m _ _ _ hm
  obtain ⟨l1, w1, e1⟩ := in_ranks (hval 1 _ v1 rfl rfl) h1
  clear hA0 hval0
  refine (bridge (args := [.arr (l0.map wdV) .no, .arr (l1.map rkV) .no]) (ra := #[v0, v1]) (c6 l0 l1 [] w0 w1) rfl (by intro a ha; simp at ha; rcases ha with rfl | rfl <;> rfl) (fun i => ?_)).mono fun e W' ⟨he, bel⟩ => ?_
  · match i with
    | 0 => exact e0
    | 1 => exact e1
    | i + 2 => exact .junk _
  · subst he
    exact ⟨_, rfl, _, _, _, [], _, [], hW', trodAll_mk1 (shut_bool Try.underlying4 _), (trodAll_cons_mk (Below.trod laidOut (by kernel_rfl) (of_decide_eq_true (by kernel_rfl)) h0 bel lt0) (trodAll_cons_mk (Below.trod laidOut (by kernel_rfl) (of_decide_eq_true (by kernel_rfl)) h1 bel lt1) trodAll_mk0)), rfl, bel.frame _, fun h => by cases h⟩
theorem over : Rows.prosodyBreaksRow.holds Try.pinned (OpenSpec.ofChange Rows.prosodyBreaksSpec) :=
 OpenClaim.holds_of_wide 6 Try.f6 rfl rfl rfl rfl rfl rfl rfl ⟨rfl, rfl, rfl, rfl, rfl⟩ rfl rfl rfl rfl rfl (by kernel_rfl) Try.func6 (by kernel_rfl)
  (of_decide_eq_true (by kernel_rfl)) (by unfold Func.isWrapper; first | (rw [if_pos (by decide +kernel)]; kernel_rfl) | (rw [if_neg (by decide +kernel)]; exact ⟨rfl, rfl⟩))
  (fun os started H enc _ => lifted os started H enc)
theorem prosodyBreaks_holds : Rows.ProsodyBreaksSaid := over
#print axioms prosodyBreaks_holds
end Go.Proofs.Ytgicpobploinhaa
