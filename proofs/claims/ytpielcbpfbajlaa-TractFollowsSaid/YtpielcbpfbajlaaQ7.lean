/- The law TractFollows of the given program returns true for any three numbers, and leaves all as they were. No condition. -/
import Derived.Test.YtpielcbpfbajlaaP5
import Derived.Test.YtpielcbpfbajlaaProg
import Derived.Test.YtpielcbpfbajlaaRows
set_option linter.unusedVariables false
set_option maxRecDepth 20000
set_option maxHeartbeats 4000000
namespace Go.Proofs.Ytpielcbpfbajlaa
open Go Go.Ab Go.Proofs
def an7 : An := { imm := [], jn := [(3, [0, 1, 2, 7, 8, 37]), (5, [0, 1, 7, 56])], lp := [], loud := [], ord := [] }
def vc7 (C : Cb) (a0 a1 a2 : V) (H : Hp) (R : List V → Hp → Prop) : Prop :=
 C.callE 37 [a0.nod.nod, a1.nod.nod, a2.nod.nod] H fun (v1 : V) (H2 : Hp) =>
 C.aExt 0 v1.nod.nod fun (v3 : V) =>
 C.aExt 1 v1.nod.nod fun (v4 : V) =>
 Jn (fun (l5 : List V) (H6 : Hp) =>
 aCond (l5.getD 5 .junk).nod (
 C.aBin (Try.prog.underlying 27) .eql (l5.getD 4 .junk).nod.nod (I 2) fun (v8 : V) =>
 Jv (fun (v9 : V) (H10 : Hp) =>
 Jv (fun (v13 : V) (H14 : Hp) =>
 R [v13] H14)
 (fun (R15 : V → Hp → Prop) =>
 aG v9.nod true (
 C.callE 17 [] H10 fun (v16 : V) (H17 : Hp) =>
 R15 v16.nod H17) (
 R15 (B false) H10)))
 (fun (R11 : V → Hp → Prop) =>
 aG v8.nod true (
 C.aBin (Try.prog.underlying 3) .eql (l5.getD 3 .junk).nod.nod (I 0) fun (v12 : V) =>
 R11 v12.nod H6) (
 R11 (B false) H6))) (
 Jn (fun (l18 : List V) (H19 : Hp) =>
 aCond (l18.getD 3 .junk).nod (
 R [(B false)] H19) (
 C.aBin (Try.prog.underlying 3) .eql (l18.getD 0 .junk).nod.nod (l18.getD 1 .junk).nod.nod fun (v21 : V) =>
 aCond v21.nod (
 C.aBin (Try.prog.underlying 3) .eql (l18.getD 2 .junk).nod.nod (l18.getD 0 .junk).nod.nod fun (v22 : V) =>
 Jv (fun (v23 : V) (H24 : Hp) =>
 R [v23] H24)
 (fun (R25 : V → Hp → Prop) =>
 aG v22.nod true (
 C.callE 17 [] H19 fun (v26 : V) (H27 : Hp) =>
 R25 v26.nod H27) (
 R25 (B false) H19))) (
 C.aBin (Try.prog.underlying 3) .lss (l18.getD 0 .junk).nod.nod (l18.getD 2 .junk).nod.nod fun (v28 : V) =>
 Jv (fun (v29 : V) (H30 : Hp) =>
 Jv (fun (v33 : V) (H34 : Hp) =>
 Jv (fun (v38 : V) (H39 : Hp) =>
 R [v38] H39)
 (fun (R40 : V → Hp → Prop) =>
 aG v33.nod true (
 C.callE 17 [] H34 fun (v41 : V) (H42 : Hp) =>
 R40 v41.nod H42) (
 R40 (B false) H34)))
 (fun (R35 : V → Hp → Prop) =>
 aG v29.nod false (
 C.aBin (Try.prog.underlying 3) .gtr (l18.getD 0 .junk).nod.nod (l18.getD 2 .junk).nod.nod fun (v36 : V) =>
 aG v36.nod true (
 C.aBin (Try.prog.underlying 3) .geq (l18.getD 2 .junk).nod.nod (l18.getD 1 .junk).nod.nod fun (v37 : V) =>
 R35 v37.nod.nod H30) (
 R35 (B false) H30)) (
 UD = UD ∧
 UD = UD ∧
 UD = UD ∧
 R35 (B true) H30)))
 (fun (R31 : V → Hp → Prop) =>
 aG v28.nod true (
 C.aBin (Try.prog.underlying 3) .leq (l18.getD 2 .junk).nod.nod (l18.getD 1 .junk).nod.nod fun (v32 : V) =>
 R31 v32.nod H19) (
 R31 (B false) H19)))))
 (fun (R20 : List V → Hp → Prop) =>
 C.aBin (Try.prog.underlying 27) .neq (l5.getD 4 .junk).nod.nod (I 0) fun (v43 : V) =>
 Jv (fun (v44 : V) (H45 : Hp) =>
 R20 [(l5.getD 0 .junk), (l5.getD 1 .junk), (l5.getD 3 .junk), v44] H45)
 (fun (R46 : V → Hp → Prop) =>
 aG v43.nod false (
 C.callE 38 [(l5.getD 0 .junk).nod.nod, (l5.getD 1 .junk).nod.nod, (l5.getD 2 .junk).nod.nod] H6 fun (v47 : V) (H48 : Hp) =>
 C.aBin (Try.prog.underlying 3) .neq (l5.getD 3 .junk).nod.nod v47.nod fun (v49 : V) =>
 R46 v49.nod H48) (
 R46 (B true) H6)))))
 (fun (R7 : List V → Hp → Prop) =>
 C.aBin (Try.prog.underlying 3) .lss a0.nod.nod (I (-1000000000)) fun (v50 : V) =>
 Jv (fun (v51 : V) (H52 : Hp) =>
 Jv (fun (v55 : V) (H56 : Hp) =>
 Jv (fun (v59 : V) (H60 : Hp) =>
 Jv (fun (v63 : V) (H64 : Hp) =>
 Jv (fun (v67 : V) (H68 : Hp) =>
 R7 [a0, a1, a2, v3, v4, v67] H68)
 (fun (R69 : V → Hp → Prop) =>
 aG v63.nod false (
 C.aBin (Try.prog.underlying 3) .gtr a2.nod.nod (I 1000) fun (v70 : V) =>
 R69 v70.nod H64) (
 R69 (B true) H64)))
 (fun (R65 : V → Hp → Prop) =>
 aG v59.nod false (
 C.aBin (Try.prog.underlying 3) .lss a2.nod.nod (I 1) fun (v66 : V) =>
 R65 v66.nod H60) (
 R65 (B true) H60)))
 (fun (R61 : V → Hp → Prop) =>
 aG v55.nod false (
 C.aBin (Try.prog.underlying 3) .gtr a1.nod.nod (I 1000000000) fun (v62 : V) =>
 R61 v62.nod H56) (
 R61 (B true) H56)))
 (fun (R57 : V → Hp → Prop) =>
 aG v51.nod false (
 C.aBin (Try.prog.underlying 3) .lss a1.nod.nod (I (-1000000000)) fun (v58 : V) =>
 R57 v58.nod H52) (
 R57 (B true) H52)))
 (fun (R53 : V → Hp → Prop) =>
 aG v50.nod false (
 C.aBin (Try.prog.underlying 3) .gtr a0.nod.nod (I 1000000000) fun (v54 : V) =>
 R53 v54.nod H2) (
 R53 (B true) H2)))
theorem wf7 : (Nat.ble 3 Try.f7.ntmps && wfC an7 Try.f7.ntmps (Try.f7.body.getD .skip)) = true := by kernel_rfl
theorem tie7 (C : Cb) (a0 a1 a2 : V) (H : Hp) (R : List V → Hp → Prop) : wpG Try.prog C an7 (Try.f7.body.getD .skip) (argF [a0, a1, a2]) H (retG Try.prog C Try.f7 R) (fun _ _ _ => False) (retG Try.prog C Try.f7 R) = vc7 C a0 a1 a2 H R := by kernel_rfl
theorem mk7 (a0 a1 a2 : V) {H : Hp} {v : V} {H1 : Hp} (hd : v.Nd) (hn : H.length ≤ H1.length) (hb : H1 = H ∨ ∀ (b : Nat) (blk : Blk), H1[b]? = some blk → H[b]? = some blk ∨ BelB H1.length blk) (h : vc7 (real Try.prog) a0 a1 a2 H (retF v H1)) : Ret Try.prog 7 [a0, a1, a2] H v H1 :=
  ret_mk (an := an7) hm Try.call7 Try.func7 rfl wf7 hd hn hb (Eq.mpr (tie7 (real Try.prog) a0 a1 a2 H (retF v H1)) h)
theorem mkE7 (a0 a1 a2 : V) {H : Hp} {Q : V → Hp → Prop} (h : vc7 (real Try.prog) a0 a1 a2 H (retW Q)) : RetE Try.prog 7 [a0, a1, a2] H Q :=
  retE_mk (an := an7) hm Try.call7 Try.func7 rfl wf7 (Eq.mpr (tie7 (real Try.prog) a0 a1 a2 H (retW Q)) h)
theorem mko7 (a0 a1 a2 : V) {H : Hp} {xs : List V} {H1 : Hp} (hn : H.length ≤ H1.length) (hb : H1 = H ∨ ∀ (b : Nat) (blk : Blk), H1[b]? = some blk → H[b]? = some blk ∨ BelB H1.length blk) (h : vc7 (real Try.prog) a0 a1 a2 H (retO xs H1)) : Ret Try.prog 7 [a0, a1, a2] H (.arr xs .own) H1 :=
  ret_mko (an := an7) (t := 6) hm Try.call7 Try.func7 rfl wf7 rfl hn hb (Eq.mpr (tie7 (real Try.prog) a0 a1 a2 H (retO xs H1)) h)
end Go.Proofs.Ytpielcbpfbajlaa


set_option linter.unusedVariables false
set_option linter.unusedSimpArgs false
set_option linter.unnecessarySimpa false
set_option maxRecDepth 20000
set_option maxHeartbeats 2000000
namespace Go.Proofs.Ytpielcbpfbajlaa
open Go Go.Ab Go.Proofs
attribute [local congr] g_bin g_nilS g_nilP g_un g_ext g_bx g_fa g_ld g_st g_ix g_ixA g_slc g_mk g_bs g_bd g_nc g_cv g_len g_lenT g_app g_appB g_cpy g_mm g_call g_callG g_calm g_calmG g_range g_res g_pick g_cond g_loop g_Jv g_eqS g_eqP g_fd g_ixT g_ta g_lkp g_upd g_mkM g_appS g_inv g_callE g_callEG g_invE g_zr
theorem flNot {x g s : Int} (h : ¬ FlOk x g s) : (decide (x < -1000000000) || decide (1000000000 < x) || decide (g < -1000000000) || decide (1000000000 < g) || decide (s < 1) || decide (1000 < s)) = true := by
  rw [FlOk_iff] at h
  simp only [Bool.and_eq_true, inB_iff] at h
  simp only [Bool.or_eq_true, decide_eq_true_eq]
  omega
theorem flYes {x g s : Int} (h : FlOk x g s) : (decide (x < -1000000000) || decide (1000000000 < x) || decide (g < -1000000000) || decide (1000000000 < g) || decide (s < 1) || decide (1000 < s)) = false := by
  have h1 := h.x
  have h2 := h.g
  have h3 := h.s
  simp only [Bool.or_eq_false_iff, decide_eq_false_iff_not]
  omega
theorem c7 (x g s : Int) (H : Hp) : Ret Try.prog 7 [I x, I g, I s] H (B true) H := by
  refine mk7 _ _ _ rfl (Nat.le_refl _) (.inl rfl) ?_
  simp only [vc7, real]
  repeat (first | (with_reducible first | refine jn_go ?_ | refine ud_go ?_ | refine tr_go ?_ | (refine Hd.go ?_; intro K Q hK hQ; simp only [nod_imm]; subst hK hQ) | refine rn_go ?_ | refine rv_go ?_ | refine jv_go ?_) | refine sd ?_)
  refine call_of (c37 x g s _) ?_
  by_cases h : FlOk x g s
  · rw [if_pos h, if_pos h]
    have hb := flYes h
    repeat (first | (with_reducible first | refine jn_go ?_ | refine ud_go ?_ | refine tr_go ?_ | (refine Hd.go ?_; intro K Q hK hQ; simp only [nod_tup, List.map_cons, nod2_imm, List.map_nil, e_x20, e_x21, nod_imm, Try.underlying3, Int.reduceNeg, e_lss, e_gtr, e_gF, j_or', j_one, hb, List.getD_cons_succ, List.getD_cons_zero, e_cond, Bool.false_eq_true, if_false, Try.underlying27, e_neq, decide_true, Bool.not_true, cond_false]; subst hK hQ) | refine rn_go ?_ | refine rv_go ?_ | refine jv_go ?_) | refine sd ?_)
    refine call_of (c38 x g s _ h) ?_
    repeat (first | (with_reducible first | refine jn_go ?_ | refine ud_go ?_ | refine tr_go ?_ | (refine Hd.go ?_; intro K Q hK hQ; simp only [nod_imm, e_neq, decide_true, Bool.not_true, List.getD_cons_zero, List.getD_cons_succ, e_cond, Bool.false_eq_true, if_false, Try.underlying3, e_eql, decide_eq_true_eq]; subst hK hQ) | refine rn_go ?_ | refine rv_go ?_ | refine jv_go ?_) | refine sd ?_)
    by_cases e : x = g
    · subst e
      rw [flw_eq]
      repeat (first | (with_reducible first | refine jn_go ?_ | refine ud_go ?_ | refine tr_go ?_ | (refine Hd.go ?_; intro K Q hK hQ; simp only [if_true, List.getD_cons_succ, List.getD_cons_zero, nod_imm, Try.underlying3, e_eql, decide_true, e_gT, cond_true]; subst hK hQ) | refine rn_go ?_ | refine rv_go ?_ | refine jv_go ?_) | refine sd ?_)
      refine call_of (c17 _) ?_
      with_reducible first | refine rv_go ?_ | refine rn_go ?_ | skip
      first | exact end1 (fzI _) | exact end1A (fzI _)
    · repeat (first | (with_reducible first | refine jn_go ?_ | refine ud_go ?_ | refine tr_go ?_ | (refine Hd.go ?_; intro K Q hK hQ; simp only [e, if_false, List.getD_cons_zero, nod_imm, Try.underlying3, List.getD_cons_succ, e_lss, e_leq, e_gT, j_and', j_one, nod_nod, e_geq, e_gtr, true_and, e_gF, j_or']; subst hK hQ) | refine rn_go ?_ | refine rv_go ?_ | refine jv_go ?_) | refine sd ?_)
      have hr : (decide (x < flw x g s) && decide (flw x g s ≤ g) || decide (flw x g s < x) && decide (g ≤ flw x g s)) = true := by
        simp only [Bool.or_eq_true, Bool.and_eq_true, decide_eq_true_eq]
        rcases Int.lt_trichotomy x g with hl | hl | hl
        · exact .inl (flw_up h hl)
        · exact (e hl).elim
        · have := flw_dn h hl; exact .inr ⟨this.2, this.1⟩
      repeat (first | (with_reducible first | refine jn_go ?_ | refine ud_go ?_ | refine tr_go ?_ | (refine Hd.go ?_; intro K Q hK hQ; simp only [hr, cond_true]; subst hK hQ) | refine rn_go ?_ | refine rv_go ?_ | refine jv_go ?_) | refine sd ?_)
      refine call_of (c17 _) ?_
      with_reducible first | refine rv_go ?_ | refine rn_go ?_ | skip
      first | exact end1 (fzI _) | exact end1A (fzI _)
  · rw [if_neg h, if_neg h]
    have hb := flNot h
    repeat (first | (with_reducible first | refine jn_go ?_ | refine ud_go ?_ | refine tr_go ?_ | (refine Hd.go ?_; intro K Q hK hQ; simp only [nod_tup, List.map_cons, nod2_imm, List.map_nil, e_x20, e_x21, nod_imm, Try.underlying3, Int.reduceNeg, e_lss, e_gtr, e_gF, j_or', j_one, hb, List.getD_cons_succ, List.getD_cons_zero, e_cond, if_true, Try.underlying27, e_eql, decide_true, e_gT, cond_true]; subst hK hQ) | refine rn_go ?_ | refine rv_go ?_ | refine jv_go ?_) | refine sd ?_)
    refine call_of (c17 _) ?_
    with_reducible first | refine rv_go ?_ | refine rn_go ?_ | skip
    first | exact end1 (fzI _) | exact end1A (fzI _)
end Go.Proofs.Ytpielcbpfbajlaa


set_option linter.unusedVariables false
set_option linter.unusedSimpArgs false
set_option linter.unnecessarySimpa false
set_option maxRecDepth 20000
set_option maxHeartbeats 2000000
namespace Go.Proofs.Ytpielcbpfbajlaa
open Go Go.Ab Go.Proofs
attribute [local congr] g_bin g_nilS g_nilP g_un g_ext g_bx g_fa g_ld g_st g_ix g_ixA g_slc g_mk g_bs g_bd g_nc g_cv g_len g_lenT g_app g_appB g_cpy g_mm g_call g_callG g_calm g_calmG g_range g_res g_pick g_cond g_loop g_Jv g_eqS g_eqP g_fd g_ixT g_ta g_lkp g_upd g_mkM g_appS g_inv g_callE g_callEG g_invE g_zr
open Go.ChangeShapes Go.WideShapes Go.ChangeAt Go.RowKit
theorem own : ownKnob Try.prog.godebug = none := by kernel_rfl
theorem laidOut : laidOutB Try.prog = true := by kernel_rfl
set_option maxRecDepth 100000 in
theorem lifted (os : Os) (started : os.Started) (H : Type) (enc : TypeId × Value → H) :
    ReturnsInHanded {} Try.checked os 7 .any (Rows.tractFollowsSpec.pre6 enc Try.prog Try.f7 Rows.tractFollowsRow.domain false) (Rows.tractFollowsSpec.post enc Try.prog Try.f7 false true false false) := by
  refine returnsInHanded_of_change (C := Try.checked) own started (by kernel_rfl) Try.func7
    (ChangeSpec.witness6 (enc := enc) (C := Try.checked) false ⟨#[], #[.int .i64 0, .int .i64 0, .int .i64 0], []⟩ 8 (by kernel_rfl) (by kernel_rfl) (by kernel_rfl) (by kernel_rfl)) ?_
  intro W base args ds gs before hval0 hW hcnd _
  have hval : ∀ (j : Nat) t v, Try.f7.params[j]? = some t → args[j]? = some v → Value.okWide Try.prog W .any base t v := hval0
  have hW' := hW
  obtain ⟨p, q, hA0, hV, rfl, hfz, hnd⟩ := hW
  have hA : DataW.TrodAll enc Try.prog W 0 (fun _ => true) true Try.f7.params.toList args.toList ds p := hA0
  rw [Try.params7] at hA hval
  obtain ⟨v0, vs0, d0, ds0, p0, q0, hargs, rfl, rfl, h0, r0⟩ := trodAll_cons hA
  obtain ⟨v1, vs1, d1, ds1, p1, q1, rfl, rfl, rfl, h1, r1⟩ := trodAll_cons r0
  obtain ⟨v2, vs2, d2, ds2, p2, q2, rfl, rfl, rfl, h2, r2⟩ := trodAll_cons r1
  obtain ⟨rfl, rfl, rfl⟩ := trodAll_nil r2
  obtain rfl : args = #[v0, v1, v2] := by cases args; simp_all
  obtain ⟨rfl, rfl⟩ := trodVars_none hV
  have lt0 : ∀ x ∈ p0, x.block < W.heap.size := by obtain ⟨m, hm⟩ := h0; exact DataW.trod_lt m _ _ _ hm
  obtain ⟨n0, e0, w0⟩ := in_int Try.underlying3 (hval 0 _ v0 rfl rfl) h0
  have lt1 : ∀ x ∈ p1, x.block < W.heap.size := by obtain ⟨m, hm⟩ := h1; exact DataW.trod_lt m _ _ _ hm
  obtain ⟨n1, e1, w1⟩ := in_int Try.underlying3 (hval 1 _ v1 rfl rfl) h1
  have lt2 : ∀ x ∈ p2, x.block < W.heap.size := by obtain ⟨m, hm⟩ := h2; exact DataW.trod_lt m _ _ _ hm
  obtain ⟨n2, e2, w2⟩ := in_int Try.underlying3 (hval 2 _ v2 rfl rfl) h2
  clear hA0 hval0
  refine (bridge (args := [I n0, I n1, I n2]) (ra := #[v0, v1, v2]) (c7 n0 n1 n2  []) rfl (by intro a ha; simp at ha; rcases ha with rfl | rfl | rfl <;> rfl) (fun i => ?_)).mono fun e W' ⟨he, bel⟩ => ?_
  · match i with
    | 0 => exact e0
    | 1 => exact e1
    | 2 => exact e2
    | i + 3 => exact .junk _
  · subst he
    exact ⟨_, rfl, _, _, _, [], _, [], hW', trodAll_mk1 (shut_bool Try.underlying4 _), (trodAll_cons_mk (Below.trod laidOut (by kernel_rfl) (of_decide_eq_true (by kernel_rfl)) h0 bel lt0) (trodAll_cons_mk (Below.trod laidOut (by kernel_rfl) (of_decide_eq_true (by kernel_rfl)) h1 bel lt1) (trodAll_cons_mk (Below.trod laidOut (by kernel_rfl) (of_decide_eq_true (by kernel_rfl)) h2 bel lt2) trodAll_mk0))), rfl, bel.frame _, fun h => by cases h⟩
theorem over : Rows.tractFollowsRow.holds Try.pinned (OpenSpec.ofChange Rows.tractFollowsSpec) :=
  OpenClaim.holds_of_wide 7 Try.f7 rfl rfl rfl rfl rfl rfl rfl ⟨rfl, rfl, rfl, rfl, rfl⟩ rfl rfl rfl rfl rfl (by kernel_rfl) Try.func7 (by kernel_rfl)
    (of_decide_eq_true (by kernel_rfl)) (by unfold Func.isWrapper; first | (rw [if_pos (by decide +kernel)]; kernel_rfl) | (rw [if_neg (by decide +kernel)]; exact ⟨rfl, rfl⟩))
    (fun os started H enc _ => lifted os started H enc)
theorem tractFollows_holds : Rows.TractFollowsSaid := over
#print axioms tractFollows_holds
end Go.Proofs.Ytpielcbpfbajlaa

