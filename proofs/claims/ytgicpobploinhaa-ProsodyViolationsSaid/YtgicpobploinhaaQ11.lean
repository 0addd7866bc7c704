/- How often breaks violate constraints, or the error: true for every input. -/
import Derived.Test.YtgicpobploinhaaP6
import Derived.Test.YtgicpobploinhaaProg
import Derived.Test.YtgicpobploinhaaRows
set_option linter.unusedVariables false
set_option maxRecDepth 20000
set_option maxHeartbeats 4000000
namespace Go.Proofs.Ytgicpobploinhaa
open Go Go.Ab Go.Proofs
def an11 : An := { imm := [], jn := [(2, [0, 1, 2, 21]), (5, [0, 1, 2, 7, 8, 34])], lp := [], loud := [], ord := [] }
def vc11 (C : Cb) (a0 a1 a2 : V) (H : Hp) (R : List V → Hp → Prop) : Prop :=
 Jn (fun l1 H2 =>
 aCond (l1.getD 3 .junk).nod (
 C.callE 15 [] H2 fun v4 H5 =>
 R [v4] H5) (
 C.callE 39 [(l1.getD 0 .junk).nod.nod, (l1.getD 1 .junk).nod.nod, (l1.getD 2 .junk).nod.nod] H2 fun v6 H7 =>
 C.aExt 0 v6.nod.nod fun v8 =>
 C.aExt 1 v6.nod.nod fun v9 =>
 Jn (fun l10 H11 =>
 aCond (l10.getD 5 .junk).nod (
 C.aBin (Try.prog.underlying 28) .eql (l10.getD 4 .junk).nod.nod (I 2) fun v13 =>
 Jv (fun v14 H15 =>
 Jv (fun v19 H20 =>
 R [v19] H20)
 (fun R21 =>
 aG v14.nod true (
 C.callE 15 [] H15 fun v22 H23 =>
 R21 v22.nod H23) (
 R21 (B false) H15)))
 (fun R16 =>
 aG v13.nod true (
 C.aLen (l10.getD 3 .junk).nod.nod fun v17 =>
 C.aBin (Try.prog.underlying 3) .eql v17.nod (I 0) fun v18 =>
 R16 v18.nod H11) (
 R16 (B false) H11))) (
 C.aBin (Try.prog.underlying 28) .eql (l10.getD 4 .junk).nod.nod (I 0) fun v24 =>
 Jv (fun v25 H26 =>
 Jv (fun v32 H33 =>
 R [v32] H33)
 (fun R34 =>
 aG v25.nod true (
 C.callE 15 [] H26 fun v35 H36 =>
 R34 v35.nod H36) (
 R34 (B false) H26)))
 (fun R27 =>
 aG v24.nod true (
 C.callE 41 [(l10.getD 0 .junk).nod.nod, (l10.getD 1 .junk).nod.nod, (l10.getD 2 .junk).nod.nod] H11 fun v28 H29 =>
 C.callE 25 [(l10.getD 3 .junk).nod.nod, v28.nod] H29 fun v30 H31 =>
 R27 v30.nod H31) (
 R27 (B false) H11))))
 (fun R12 =>
 C.callE 40 [(l1.getD 0 .junk).nod.nod, (l1.getD 1 .junk).nod.nod, (l1.getD 2 .junk).nod.nod] H7 fun v37 H38 =>
 C.aUn .not v37.nod fun v39 =>
 R12 [(l1.getD 0 .junk), (l1.getD 1 .junk), (l1.getD 2 .junk), v8, v9, v39] H38)))
 (fun R3 =>
 C.aLen a0.nod.nod fun v40 =>
 C.aBin (Try.prog.underlying 3) .gtr v40.nod (I 70) fun v41 =>
 Jv (fun v42 H43 =>
 Jv (fun v47 H48 =>
 R3 [a0, a1, a2, v47] H48)
 (fun R49 =>
 aG v42.nod false (
 C.aLen a2.nod.nod fun v50 =>
 C.aBin (Try.prog.underlying 3) .gtr v50.nod (I 70) fun v51 =>
 R49 v51.nod H43) (
 R49 (B true) H43)))
 (fun R44 =>
 aG v41.nod false (
 C.aLen a1.nod.nod fun v45 =>
 C.aBin (Try.prog.underlying 3) .gtr v45.nod (I 70) fun v46 =>
 R44 v46.nod H) (
 R44 (B true) H)))
theorem wf11 : (Nat.ble 3 Try.f11.ntmps && wfC an11 Try.f11.ntmps (Try.f11.body.getD .skip)) = true := by kernel_rfl
theorem tie11 (C : Cb) (a0 a1 a2 : V) (H : Hp) (R : List V → Hp → Prop) : wpG Try.prog C an11 (Try.f11.body.getD .skip) (argF [a0, a1, a2]) H (retG Try.prog C Try.f11 R) (fun _ _ _ => False) (retG Try.prog C Try.f11 R) = vc11 C a0 a1 a2 H R := by kernel_rfl
theorem mk11 (a0 a1 a2 : V) {H : Hp} {v : V} {H1 : Hp} (hd : v.Nd) (hn : H.length ≤ H1.length) (hb : H1 = H ∨ ∀ (b : Nat) (blk : Blk), H1[b]? = some blk → H[b]? = some blk ∨ BelB H1.length blk) (h : vc11 (real Try.prog) a0 a1 a2 H (retF v H1)) : Ret Try.prog 11 [a0, a1, a2] H v H1 :=
 ret_mk (an := an11) hm Try.call11 Try.func11 rfl wf11 hd hn hb (Eq.mpr (tie11 (real Try.prog) a0 a1 a2 H (retF v H1)) h)
theorem mkE11 (a0 a1 a2 : V) {H : Hp} {Q : V → Hp → Prop} (h : vc11 (real Try.prog) a0 a1 a2 H (retW Q)) : RetE Try.prog 11 [a0, a1, a2] H Q :=
 retE_mk (an := an11) hm Try.call11 Try.func11 rfl wf11 (Eq.mpr (tie11 (real Try.prog) a0 a1 a2 H (retW Q)) h)
theorem mko11 (a0 a1 a2 : V) {H : Hp} {xs : List V} {H1 : Hp} (hn : H.length ≤ H1.length) (hb : H1 = H ∨ ∀ (b : Nat) (blk : Blk), H1[b]? = some blk → H[b]? = some blk ∨ BelB H1.length blk) (h : vc11 (real Try.prog) a0 a1 a2 H (retO xs H1)) : Ret Try.prog 11 [a0, a1, a2] H (.arr xs .own) H1 :=
 ret_mko (an := an11) (t := 6) hm Try.call11 Try.func11 rfl wf11 rfl hn hb (Eq.mpr (tie11 (real Try.prog) a0 a1 a2 H (retO xs H1)) h)
end Go.Proofs.Ytgicpobploinhaa
set_option linter.unusedSimpArgs false
set_option linter.unnecessarySimpa false
set_option maxHeartbeats 2000000
namespace Go.Proofs.Ytgicpobploinhaa
open Go Go.Ab Go.Proofs
attribute [local congr] g_bin g_nilS g_nilP g_un g_ext g_bx g_fa g_ld g_st g_ix g_ixA g_slc g_mk g_bs g_bd g_nc g_cv g_len g_lenT g_app g_appB g_cpy g_mm g_call g_callG g_calm g_calmG g_range g_res g_pick g_cond g_loop g_Jv g_eqS g_eqP g_fd g_ixT g_ta g_lkp g_upd g_mkM g_appS g_inv g_callE g_callEG g_invE g_zr g_wr
theorem c11 (ws : List Wd) (rs : List Rk) (b : List Int) (H : Hp) (w0 : ws.length ≤ 9223372036854775807) (w1 : rs.length ≤ 9223372036854775807) (w2 : b.length ≤ 9223372036854775807) : Ret Try.prog 11 [.arr (ws.map wdV) .no, .arr (rs.map rkV) .no, ints b .no] H (B true) H := by
 refine mk11 _ _ _ rfl (Nat.le_refl _) (.inl rfl) ?_
 simp only [vc11, real]
 repeat (first | (with_reducible first | refine Ju.go ?_ | (refine Hd.go ?_; intro K Q hK hQ; simp only [nod_arr, nd_no, e_lenA, List.length_map, nod_imm, Try.underlying3, e_gtr, e_gF, j_or', j_one, nod_ints, e_len, List.getD_cons_succ, List.getD_cons_zero, e_cond]; subst hK hQ) | refine Jr.go ?_) | refine sd ?_)
 split
 ·refine call_of (c15 _) ?_
  repeat (first | (with_reducible first | refine Ju.go ?_ | (refine Hd.go ?_; intro K Q hK hQ; simp only []; subst hK hQ) | refine Jr.go ?_) | refine sd ?_)
  exact end1 (fzI _)
 ·refine call_of (c39 ws rs b H w0 w1 w2) ?_
  have c := c40 ws rs b H w0 w1 w2
  unfold viV
  cases hok : (okWs ws && okRs rs && okBr b ws.length)
  ·rw [hok] at c
   rw [if_neg (by decide)]
   repeat (first | (with_reducible first | refine Ju.go ?_ | (refine Hd.go ?_; intro K Q hK hQ; simp only [nod_tup, List.map_cons, nod2_ints, nd_no, nod2_imm, List.map_nil, e_x20, e_x21, List.getD_cons_zero, nod_arr, List.getD_cons_succ, nod_ints]; subst hK hQ) | refine Jr.go ?_) | refine sd ?_)
   refine call_of c ?_
   repeat (first | (with_reducible first | refine Ju.go ?_ | (refine Hd.go ?_; intro K Q hK hQ; simp only [nod_imm, e_not, Bool.not_false, List.getD_cons_zero, List.getD_cons_succ, e_cond, if_true, e_eql, decide_true, nod_ints, nd_no, Try.underlying3, e_len, List.length_nil, Int.cast_ofNat_Int, e_gT, cond_true, j_one]; subst hK hQ) | refine Jr.go ?_) | refine sd ?_)
   refine call_of (c15 _) ?_
   repeat (first | (with_reducible first | refine Ju.go ?_ | (refine Hd.go ?_; intro K Q hK hQ; simp only [nod_imm]; subst hK hQ) | refine Jr.go ?_) | refine sd ?_)
   exact end1 (fzI _)
  ·rw [hok] at c
   rw [if_pos rfl]
   rw [Bool.and_eq_true, Bool.and_eq_true] at hok
   have hl := vios_len ws b rs
   have hrl := (okRs_p hok.1.2).1
   repeat (first | (with_reducible first | refine Ju.go ?_ | (refine Hd.go ?_; intro K Q hK hQ; simp only [nod_tup, List.map_cons, nod2_ints, nd_no, nod2_imm, List.map_nil, e_x20, e_x21, List.getD_cons_zero, nod_arr, List.getD_cons_succ, nod_ints]; subst hK hQ) | refine Jr.go ?_) | refine sd ?_)
   refine call_of c ?_
   repeat (first | (with_reducible first | refine Ju.go ?_ | (refine Hd.go ?_; intro K Q hK hQ; simp only [nod_imm, e_not, Bool.not_true, List.getD_cons_zero, List.getD_cons_succ, e_cond, Bool.false_eq_true, if_false, e_eql, decide_true, nod_arr, nd_no, nod_ints, e_gT, cond_true]; subst hK hQ) | refine Jr.go ?_) | refine sd ?_)
   refine call_of (c41 ws b rs H hok.1.1 hok.1.2 hok.2) ?_
   repeat (first | (with_reducible first | refine Ju.go ?_ | (refine Hd.go ?_; intro K Q hK hQ; simp only [nod_ints, nd_no]; subst hK hQ) | refine Jr.go ?_) | refine sd ?_)
   refine call_of (c25 (vios ws b rs) (vios ws b rs) .no .no H (by omega) (.inl rfl) (.inl rfl)) ?_
   rw [decide_eq_true rfl]
   repeat (first | (with_reducible first | refine Ju.go ?_ | (refine Hd.go ?_; intro K Q hK hQ; simp only [nod_imm, e_gT, cond_true]; subst hK hQ) | refine Jr.go ?_) | refine sd ?_)
   refine call_of (c15 _) ?_
   repeat (first | (with_reducible first | refine Ju.go ?_ | (refine Hd.go ?_; intro K Q hK hQ; simp only [nod_imm]; subst hK hQ) | refine Jr.go ?_) | refine sd ?_)
   exact end1 (fzI _)
open Go.ChangeShapes Go.WideShapes Go.ChangeAt Go.RowKit
theorem own : ownKnob Try.prog.godebug = none := by kernel_rfl
theorem laidOut : laidOutB Try.prog = true := by kernel_rfl
set_option maxRecDepth 100000 in
theorem lifted (os : Os) (started : os.Started) (H : Type) (enc : TypeId × Value → H) :
    ReturnsInHanded {} Try.checked os 11 .any (Rows.prosodyViolationsSpec.pre6 enc Try.prog Try.f11 Rows.prosodyViolationsRow.domain false) (Rows.prosodyViolationsSpec.post enc Try.prog Try.f11 false true false false) := by
  refine returnsInHanded_of_change (C := Try.checked) own started (by kernel_rfl) Try.func11
    (ChangeSpec.witness6 (enc := enc) (C := Try.checked) false ⟨#[], #[.slice none 0 0, .slice none 0 0, .slice none 0 0], []⟩ 8 (by kernel_rfl) (by kernel_rfl) (by kernel_rfl) (by kernel_rfl)) ?_
  intro W base args ds gs before hval0 hW hcnd _
  have hval : ∀ (j : Nat) t v, Try.f11.params[j]? = some t → args[j]? = some v → Value.okWide Try.prog W .any base t v := hval0
  have hW' := hW
  obtain ⟨p, q, hA0, hV, rfl, hfz, hnd⟩ := hW
  have hA : DataW.TrodAll enc Try.prog W 0 (fun _ => true) true Try.f11.params.toList args.toList ds p := hA0
  rw [Try.params11] at hA hval
  obtain ⟨v0, vs0, d0, ds0, p0, q0, hargs, rfl, rfl, h0, r0⟩ := trodAll_cons hA
  obtain ⟨v1, vs1, d1, ds1, p1, q1, rfl, rfl, rfl, h1, r1⟩ := trodAll_cons r0
  obtain ⟨v2, vs2, d2, ds2, p2, q2, rfl, rfl, rfl, h2, r2⟩ := trodAll_cons r1
  obtain ⟨rfl, rfl, rfl⟩ := trodAll_nil r2
  obtain rfl : args = #[v0, v1, v2] := by cases args; simp_all
  obtain ⟨rfl, rfl⟩ := trodVars_none hV
  have lt0 : ∀ x ∈ p0, x.block < W.heap.size := by obtain ⟨m, hm⟩ := h0; exact DataW.trod_lt m _ _ _ hm
  obtain ⟨l0, w0, e0⟩ := in_words (hval 0 _ v0 rfl rfl) h0
  have lt1 : ∀ x ∈ p1, x.block < W.heap.size := by obtain ⟨m, hm⟩ := h1; exact DataW.trod_lt m _ _ _ hm
  obtain ⟨l1, w1, e1⟩ := in_ranks (hval 1 _ v1 rfl rfl) h1
  have lt2 : ∀ x ∈ p2, x.block < W.heap.size := by obtain ⟨m, hm⟩ := h2; exact DataW.trod_lt m _ _ _ hm
  obtain ⟨l2, w2, e2⟩ := in_is (hval 2 _ v2 rfl rfl) h2
  clear hA0 hval0
  refine (bridge (args := [.arr (l0.map wdV) .no, .arr (l1.map rkV) .no, ints l2 .no]) (ra := #[v0, v1, v2]) (c11 l0 l1 l2 [] w0 w1 w2) rfl (by intro a ha; simp at ha; rcases ha with rfl | rfl | rfl <;> rfl) (fun i => ?_)).mono fun e W' ⟨he, bel⟩ => ?_
  · match i with
    | 0 => exact e0
    | 1 => exact e1
    | 2 => exact e2
    | i + 3 => exact .junk _
  · subst he
    exact ⟨_, rfl, _, _, _, [], _, [], hW', trodAll_mk1 (shut_bool Try.underlying4 _), (trodAll_cons_mk (Below.trod laidOut (by kernel_rfl) (of_decide_eq_true (by kernel_rfl)) h0 bel lt0) (trodAll_cons_mk (Below.trod laidOut (by kernel_rfl) (of_decide_eq_true (by kernel_rfl)) h1 bel lt1) (trodAll_cons_mk (Below.trod laidOut (by kernel_rfl) (of_decide_eq_true (by kernel_rfl)) h2 bel lt2) trodAll_mk0))), rfl, bel.frame _, fun h => by cases h⟩
theorem over : Rows.prosodyViolationsRow.holds Try.pinned (OpenSpec.ofChange Rows.prosodyViolationsSpec) :=
 OpenClaim.holds_of_wide 11 Try.f11 rfl rfl rfl rfl rfl rfl rfl ⟨rfl, rfl, rfl, rfl, rfl⟩ rfl rfl rfl rfl rfl (by kernel_rfl) Try.func11 (by kernel_rfl)
  (of_decide_eq_true (by kernel_rfl)) (by unfold Func.isWrapper; first | (rw [if_pos (by decide +kernel)]; kernel_rfl) | (rw [if_neg (by decide +kernel)]; exact ⟨rfl, rfl⟩))
  (fun os started H enc _ => lifted os started H enc)
theorem prosodyViolations_holds : Rows.ProsodyViolationsSaid := over
#print axioms prosodyViolations_holds
end Go.Proofs.Ytgicpobploinhaa
