/- What durations become if they are stretched to a total, or the errors: true for every input. -/
import Derived.Test.YtgicpobploinhaaP6
import Derived.Test.YtgicpobploinhaaProg
import Derived.Test.YtgicpobploinhaaRows
set_option linter.unusedVariables false
set_option maxRecDepth 20000
set_option maxHeartbeats 4000000
namespace Go.Proofs.Ytgicpobploinhaa
open Go Go.Ab Go.Proofs
def an9 : An := { imm := [], jn := [(2, [0, 1, 2, 3, 43]), (4, [0, 1, 2, 3, 9, 10]), (6, [0, 1, 2, 3, 9, 10]), (8, [9, 10, 11, 78])], lp := [], loud := [], ord := [] }
def vc9 (C : Cb) (a0 a1 a2 a3 : V) (H : Hp) (R : List V → Hp → Prop) : Prop :=
 Jn (fun l1 H2 =>
 aCond (l1.getD 4 .junk).nod (
 C.callE 15 [] H2 fun v4 H5 =>
 R [v4] H5) (
 Jn (fun l6 H7 =>
 Jn (fun l9 H10 =>
 C.callE 37 [(l9.getD 0 .junk).nod.nod, (l9.getD 1 .junk).nod.nod, (l9.getD 2 .junk).nod.nod, (l9.getD 3 .junk).nod.nod] H10 fun v12 H13 =>
 C.aExt 0 v12.nod.nod fun v14 =>
 C.aExt 1 v12.nod.nod fun v15 =>
 Jn (fun l16 H17 =>
 aCond (l16.getD 3 .junk).nod (
 C.aBin (Try.prog.underlying 28) .eql (l16.getD 1 .junk).nod.nod (I 5) fun v19 =>
 Jv (fun v20 H21 =>
 Jv (fun v25 H26 =>
 R [v25] H26)
 (fun R27 =>
 aG v20.nod true (
 C.callE 15 [] H21 fun v28 H29 =>
 R27 v28.nod H29) (
 R27 (B false) H21)))
 (fun R22 =>
 aG v19.nod true (
 C.aLen (l16.getD 0 .junk).nod.nod fun v23 =>
 C.aBin (Try.prog.underlying 3) .eql v23.nod (I 0) fun v24 =>
 R22 v24.nod H17) (
 R22 (B false) H17))) (
 C.aBin (Try.prog.underlying 28) .eql (l16.getD 1 .junk).nod.nod (I 0) fun v30 =>
 Jv (fun v31 H32 =>
 Jv (fun v36 H37 =>
 R [v36] H37)
 (fun R38 =>
 aG v31.nod true (
 C.callE 15 [] H32 fun v39 H40 =>
 R38 v39.nod H40) (
 R38 (B false) H32)))
 (fun R33 =>
 aG v30.nod true (
 C.callE 25 [(l16.getD 0 .junk).nod.nod, (l16.getD 2 .junk).nod.nod] H17 fun v34 H35 =>
 R33 v34.nod H35) (
 R33 (B false) H17))))
 (fun R18 =>
 C.aUn .not v15.nod.nod fun v41 =>
 R18 [(l9.getD 4 .junk), (l9.getD 5 .junk), v14, v41] H13))
 (fun R11 =>
 C.callE 36 [(l6.getD 0 .junk).nod.nod, (l6.getD 1 .junk).nod.nod, (l6.getD 2 .junk).nod.nod, (l6.getD 3 .junk).nod.nod] H7 fun v42 H43 =>
 C.aUn .not v42.nod fun v44 =>
 aCond v44.nod (
 C.aBin (Try.prog.underlying 28) .eql (l6.getD 5 .junk).nod.nod (I 2) fun v45 =>
 Jv (fun v46 H47 =>
 Jv (fun v51 H52 =>
 R [v51] H52)
 (fun R53 =>
 aG v46.nod true (
 C.callE 15 [] H47 fun v54 H55 =>
 R53 v54.nod H55) (
 R53 (B false) H47)))
 (fun R48 =>
 aG v45.nod true (
 C.aLen (l6.getD 4 .junk).nod.nod fun v49 =>
 C.aBin (Try.prog.underlying 3) .eql v49.nod (I 0) fun v50 =>
 R48 v50.nod H43) (
 R48 (B false) H43))) (
 R11 [(l6.getD 0 .junk), (l6.getD 1 .junk), (l6.getD 2 .junk), (l6.getD 3 .junk), (l6.getD 4 .junk), (l6.getD 5 .junk)] H43)))
 (fun R8 =>
 C.callE 35 [(l1.getD 0 .junk).nod.nod, (l1.getD 1 .junk).nod.nod, (l1.getD 2 .junk).nod.nod, (l1.getD 3 .junk).nod.nod] H2 fun v56 H57 =>
 C.aExt 0 v56.nod.nod fun v58 =>
 C.aExt 1 v56.nod.nod fun v59 =>
 R8 [(l1.getD 0 .junk), (l1.getD 1 .junk), (l1.getD 2 .junk), (l1.getD 3 .junk), v58, v59] H57)))
 (fun R3 =>
 C.aLen a0.nod.nod fun v60 =>
 C.aBin (Try.prog.underlying 3) .gtr v60.nod (I 30) fun v61 =>
 Jv (fun v62 H63 =>
 Jv (fun v67 H68 =>
 Jv (fun v72 H73 =>
 Jv (fun v77 H78 =>
 Jv (fun v82 H83 =>
 R3 [a0, a1, a2, a3, v82] H83)
 (fun R84 =>
 aG v77.nod false (
 C.aBin (Try.prog.underlying 3) .gtr a3.nod.nod (I 3000) fun v85 =>
 aG v85.nod true (
 C.aBin (Try.prog.underlying 3) .leq a3.nod.nod (I 60000) fun v86 =>
 R84 v86.nod.nod H78) (
 R84 (B false) H78)) (
 UD = UD ∧
 UD = UD ∧
 R84 (B true) H78)))
 (fun R79 =>
 aG v72.nod false (
 C.aLen a2.nod.nod fun v80 =>
 C.aBin (Try.prog.underlying 3) .gtr v80.nod (I 300) fun v81 =>
 R79 v81.nod H73) (
 R79 (B true) H73)))
 (fun R74 =>
 aG v67.nod false (
 C.aLen a1.nod.nod fun v75 =>
 C.aBin (Try.prog.underlying 3) .gtr v75.nod (I 300) fun v76 =>
 R74 v76.nod H68) (
 R74 (B true) H68)))
 (fun R69 =>
 aG v62.nod false (
 C.aLen a0.nod.nod fun v70 =>
 C.aBin (Try.prog.underlying 3) .gtr v70.nod (I 300) fun v71 =>
 R69 v71.nod H63) (
 R69 (B true) H63)))
 (fun R64 =>
 aG v61.nod true (
 C.aLen a0.nod.nod fun v65 =>
 C.aBin (Try.prog.underlying 3) .leq v65.nod (I 200) fun v66 =>
 R64 v66.nod H) (
 R64 (B false) H)))
theorem wf9 : (Nat.ble 4 Try.f9.ntmps && wfC an9 Try.f9.ntmps (Try.f9.body.getD .skip)) = true := by kernel_rfl
theorem tie9 (C : Cb) (a0 a1 a2 a3 : V) (H : Hp) (R : List V → Hp → Prop) : wpG Try.prog C an9 (Try.f9.body.getD .skip) (argF [a0, a1, a2, a3]) H (retG Try.prog C Try.f9 R) (fun _ _ _ => False) (retG Try.prog C Try.f9 R) = vc9 C a0 a1 a2 a3 H R := by kernel_rfl
theorem mk9 (a0 a1 a2 a3 : V) {H : Hp} {v : V} {H1 : Hp} (hd : v.Nd) (hn : H.length ≤ H1.length) (hb : H1 = H ∨ ∀ (b : Nat) (blk : Blk), H1[b]? = some blk → H[b]? = some blk ∨ BelB H1.length blk) (h : vc9 (real Try.prog) a0 a1 a2 a3 H (retF v H1)) : Ret Try.prog 9 [a0, a1, a2, a3] H v H1 :=
 ret_mk (an := an9) hm Try.call9 Try.func9 rfl wf9 hd hn hb (Eq.mpr (tie9 (real Try.prog) a0 a1 a2 a3 H (retF v H1)) h)
theorem mkE9 (a0 a1 a2 a3 : V) {H : Hp} {Q : V → Hp → Prop} (h : vc9 (real Try.prog) a0 a1 a2 a3 H (retW Q)) : RetE Try.prog 9 [a0, a1, a2, a3] H Q :=
 retE_mk (an := an9) hm Try.call9 Try.func9 rfl wf9 (Eq.mpr (tie9 (real Try.prog) a0 a1 a2 a3 H (retW Q)) h)
theorem mko9 (a0 a1 a2 a3 : V) {H : Hp} {xs : List V} {H1 : Hp} (hn : H.length ≤ H1.length) (hb : H1 = H ∨ ∀ (b : Nat) (blk : Blk), H1[b]? = some blk → H[b]? = some blk ∨ BelB H1.length blk) (h : vc9 (real Try.prog) a0 a1 a2 a3 H (retO xs H1)) : Ret Try.prog 9 [a0, a1, a2, a3] H (.arr xs .own) H1 :=
 ret_mko (an := an9) (t := 8) hm Try.call9 Try.func9 rfl wf9 rfl hn hb (Eq.mpr (tie9 (real Try.prog) a0 a1 a2 a3 H (retO xs H1)) h)
end Go.Proofs.Ytgicpobploinhaa
set_option linter.unusedSimpArgs false
set_option linter.unnecessarySimpa false
set_option maxHeartbeats 2000000
namespace Go.Proofs.Ytgicpobploinhaa
open Go Go.Ab Go.Proofs
attribute [local congr] g_bin g_nilS g_nilP g_un g_ext g_bx g_fa g_ld g_st g_ix g_ixA g_slc g_mk g_bs g_bd g_nc g_cv g_len g_lenT g_app g_appB g_cpy g_mm g_call g_callG g_calm g_calmG g_range g_res g_pick g_cond g_loop g_Jv g_eqS g_eqP g_fd g_ixT g_ta g_lkp g_upd g_mkM g_appS g_inv g_callE g_callEG g_invE g_zr g_wr
theorem c9 (d l s : List Int) (t : Int) (H : Hp) (w0 : d.length ≤ 9223372036854775807) (w1 : l.length ≤ 9223372036854775807) (w2 : s.length ≤ 9223372036854775807) : Ret Try.prog 9 [ints d .no, ints l .no, ints s .no, I t] H (B true) H := by
 refine mk9 _ _ _ _ rfl (Nat.le_refl _) (.inl rfl) ?_
 simp only [vc9, real]
 repeat (first | (with_reducible first | refine Ju.go ?_ | (refine Hd.go ?_; intro K Q hK hQ; simp only [nod_ints, nd_no, e_len, nod_imm, Try.underlying3, e_gtr, e_leq, e_gT, j_and', j_one, e_gF, j_or', nod_nod, true_and, List.getD_cons_succ, List.getD_cons_zero, e_cond]; subst hK hQ) | refine Jr.go ?_) | refine sd ?_)
 split
 ·refine call_of (c15 _) ?_
  repeat (first | (with_reducible first | refine Ju.go ?_ | (refine Hd.go ?_; intro K Q hK hQ; simp only []; subst hK hQ) | refine Jr.go ?_) | refine sd ?_)
  exact end1 (fzI _)
 ·repeat (first | (with_reducible first | refine Ju.go ?_ | (refine Hd.go ?_; intro K Q hK hQ; simp only [List.getD_cons_zero, nod_ints, nd_no, List.getD_cons_succ, nod_imm]; subst hK hQ) | refine Jr.go ?_) | refine sd ?_)
  refine call_of (c35 d l s t H w0 w1 w2) ?_
  have c36' := c36 d l s t H w0 w1 w2
  unfold strV
  cases hok : (okPh d l s && inB t 0 60000)
  ·rw [hok] at c36'
   rw [if_neg (by decide)]
   repeat (first | (with_reducible first | refine Ju.go ?_ | (refine Hd.go ?_; intro K Q hK hQ; simp only [nod_tup, List.map_cons, nod2_ints, nd_no, nod2_imm, List.map_nil, e_x20, e_x21, List.getD_cons_zero, List.getD_cons_succ, nod_ints, nod_imm]; subst hK hQ) | refine Jr.go ?_) | refine sd ?_)
   refine call_of c36' ?_
   repeat (first | (with_reducible first | refine Ju.go ?_ | (refine Hd.go ?_; intro K Q hK hQ; simp only [nod_imm, e_not, Bool.not_false, e_cond, if_true, List.getD_cons_succ, List.getD_cons_zero, e_eql, decide_true, nod_ints, nd_no, Try.underlying3, e_len, List.length_nil, Int.cast_ofNat_Int, e_gT, cond_true, j_one]; subst hK hQ) | refine Jr.go ?_) | refine sd ?_)
   refine call_of (c15 _) ?_
   repeat (first | (with_reducible first | refine Ju.go ?_ | (refine Hd.go ?_; intro K Q hK hQ; simp only [nod_imm]; subst hK hQ) | refine Jr.go ?_) | refine sd ?_)
   exact end1 (fzI _)
  ·rw [hok] at c36'
   rw [Bool.and_eq_true] at hok
   have hp := okPh_Ph hok.1
   have ht := inB_iff.1 hok.2
   have c37' := c37 d l s t H hp ht
   unfold stB at c37'
   rw [if_pos rfl]
   cases hs : strP d l s t with
   | none =>
    rw [hs] at c37'
    simp only at c37' ⊢
    repeat (first | (with_reducible first | refine Ju.go ?_ | (refine Hd.go ?_; intro K Q hK hQ; simp only [nod_tup, List.map_cons, nod2_ints, nd_no, nod2_imm, List.map_nil, e_x20, e_x21, List.getD_cons_zero, List.getD_cons_succ, nod_ints, nod_imm]; subst hK hQ) | refine Jr.go ?_) | refine sd ?_)
    refine call_of c36' ?_
    repeat (first | (with_reducible first | refine Ju.go ?_ | (refine Hd.go ?_; intro K Q hK hQ; simp only [nod_imm, e_not, Bool.not_true, e_cond, Bool.false_eq_true, if_false, List.getD_cons_zero, List.getD_cons_succ, nod_ints, nd_no]; subst hK hQ) | refine Jr.go ?_) | refine sd ?_)
    refine call_of c37' ?_
    repeat (first | (with_reducible first | refine Ju.go ?_ | (refine Hd.go ?_; intro K Q hK hQ; simp only [nod_tup, List.map_cons, nod2_ints, nd_no, nod2_imm, List.map_nil, e_x20, e_x21, nod_imm, e_not, Bool.not_false, List.getD_cons_succ, List.getD_cons_zero, e_cond, if_true, e_eql, decide_true, nod_ints, Try.underlying3, e_len, List.length_nil, Int.cast_ofNat_Int, e_gT, cond_true, j_one]; subst hK hQ) | refine Jr.go ?_) | refine sd ?_)
    refine call_of (c15 _) ?_
    repeat (first | (with_reducible first | refine Ju.go ?_ | (refine Hd.go ?_; intro K Q hK hQ; simp only [nod_imm]; subst hK hQ) | refine Jr.go ?_) | refine sd ?_)
    exact end1 (fzI _)
   | some x =>
    rw [hs] at c37'
    simp only at c37' ⊢
    have hx : x.length = d.length := by
     unfold strP at hs
     split at hs
     ·cases hs
     ·cases hs
      rw [stN_len, hp.ll]
    have hn := hp.n
    repeat (first | (with_reducible first | refine Ju.go ?_ | (refine Hd.go ?_; intro K Q hK hQ; simp only [nod_tup, List.map_cons, nod2_ints, nd_no, nod2_imm, List.map_nil, e_x20, e_x21, List.getD_cons_zero, List.getD_cons_succ, nod_ints, nod_imm]; subst hK hQ) | refine Jr.go ?_) | refine sd ?_)
    refine call_of c36' ?_
    repeat (first | (with_reducible first | refine Ju.go ?_ | (refine Hd.go ?_; intro K Q hK hQ; simp only [nod_imm, e_not, Bool.not_true, e_cond, Bool.false_eq_true, if_false, List.getD_cons_zero, List.getD_cons_succ, nod_ints, nd_no]; subst hK hQ) | refine Jr.go ?_) | refine sd ?_)
    refine call_of c37' ?_
    repeat (first | (with_reducible first | refine Ju.go ?_ | (refine Hd.go ?_; intro K Q hK hQ; simp only [nod_tup, List.map_cons, nod2_ints, nd_no, nod2_imm, List.map_nil, e_x20, e_x21, nod_imm, e_not, Bool.not_true, List.getD_cons_succ, List.getD_cons_zero, e_cond, Bool.false_eq_true, if_false, e_eql, decide_true, nod_ints, e_gT, cond_true]; subst hK hQ) | refine Jr.go ?_) | refine sd ?_)
    refine call_of (c25 x x .no .no H (by omega) (.inl rfl) (.inl rfl)) ?_
    rw [decide_eq_true rfl]
    repeat (first | (with_reducible first | refine Ju.go ?_ | (refine Hd.go ?_; intro K Q hK hQ; simp only [nod_imm, e_gT, cond_true]; subst hK hQ) | refine Jr.go ?_) | refine sd ?_)
    refine call_of (c15 _) ?_
    repeat (first | (with_reducible first | refine Ju.go ?_ | (refine Hd.go ?_; intro K Q hK hQ; simp only [nod_imm]; subst hK hQ) | refine Jr.go ?_) | refine sd ?_)
    exact end1 (fzI _)
open Go.ChangeShapes Go.WideShapes Go.ChangeAt Go.RowKit
theorem own : ownKnob Try.prog.godebug = none := by kernel_rfl
theorem laidOut : laidOutB Try.prog = true := by kernel_rfl
set_option maxRecDepth 100000 in
theorem lifted (os : Os) (started : os.Started) (H : Type) (enc : TypeId × Value → H) :
    ReturnsInHanded {} Try.checked os 9 .any (Rows.prosodyStretchesSpec.pre6 enc Try.prog Try.f9 Rows.prosodyStretchesRow.domain false) (Rows.prosodyStretchesSpec.post enc Try.prog Try.f9 false true false false) := by
  refine returnsInHanded_of_change (C := Try.checked) own started (by kernel_rfl) Try.func9
    (ChangeSpec.witness6 (enc := enc) (C := Try.checked) false ⟨#[], #[.slice none 0 0, .slice none 0 0, .slice none 0 0, .int .i64 0], []⟩ 8 (by kernel_rfl) (by kernel_rfl) (by kernel_rfl) (by kernel_rfl)) ?_
  intro W base args ds gs before hval0 hW hcnd _
  have hval : ∀ (j : Nat) t v, Try.f9.params[j]? = some t → args[j]? = some v → Value.okWide Try.prog W .any base t v := hval0
  have hW' := hW
  obtain ⟨p, q, hA0, hV, rfl, hfz, hnd⟩ := hW
  have hA : DataW.TrodAll enc Try.prog W 0 (fun _ => true) true Try.f9.params.toList args.toList ds p := hA0
  rw [Try.params9] at hA hval
  obtain ⟨v0, vs0, d0, ds0, p0, q0, hargs, rfl, rfl, h0, r0⟩ := trodAll_cons hA
  obtain ⟨v1, vs1, d1, ds1, p1, q1, rfl, rfl, rfl, h1, r1⟩ := trodAll_cons r0
  obtain ⟨v2, vs2, d2, ds2, p2, q2, rfl, rfl, rfl, h2, r2⟩ := trodAll_cons r1
  obtain ⟨v3, vs3, d3, ds3, p3, q3, rfl, rfl, rfl, h3, r3⟩ := trodAll_cons r2
  obtain ⟨rfl, rfl, rfl⟩ := trodAll_nil r3
  obtain rfl : args = #[v0, v1, v2, v3] := by cases args; simp_all
  obtain ⟨rfl, rfl⟩ := trodVars_none hV
  have lt0 : ∀ x ∈ p0, x.block < W.heap.size := by obtain ⟨m, hm⟩ := h0; exact DataW.trod_lt m _ _ _ hm
  obtain ⟨l0, w0, e0⟩ := in_is (hval 0 _ v0 rfl rfl) h0
  have lt1 : ∀ x ∈ p1, x.block < W.heap.size := by obtain ⟨m, hm⟩ := h1; exact DataW.trod_lt m _ _ _ hm
  obtain ⟨l1, w1, e1⟩ := in_is (hval 1 _ v1 rfl rfl) h1
  have lt2 : ∀ x ∈ p2, x.block < W.heap.size := by obtain ⟨m, hm⟩ := h2; exact DataW.trod_lt m _ _ _ hm
  obtain ⟨l2, w2, e2⟩ := in_is (hval 2 _ v2 rfl rfl) h2
  have lt3 : ∀ x ∈ p3, x.block < W.heap.size := by obtain ⟨m, hm⟩ := h3; exact DataW.trod_lt m _ _ _ hm
  obtain ⟨n3, e3, w3⟩ := in_int Try.underlying3 (hval 3 _ v3 rfl rfl) h3
  clear hA0 hval0
  refine (bridge (args := [ints l0 .no, ints l1 .no, ints l2 .no, I n3]) (ra := #[v0, v1, v2, v3]) (c9 l0 l1 l2 n3 [] w0 w1 w2) rfl (by intro a ha; simp at ha; rcases ha with rfl | rfl | rfl | rfl <;> rfl) (fun i => ?_)).mono fun e W' ⟨he, bel⟩ => ?_
  · match i with
    | 0 => exact e0
    | 1 => exact e1
    | 2 => exact e2
    | 3 => exact e3
    | i + 4 => exact .junk _
  · subst he
    exact ⟨_, rfl, _, _, _, [], _, [], hW', trodAll_mk1 (shut_bool Try.underlying4 _), (trodAll_cons_mk (Below.trod laidOut (by kernel_rfl) (of_decide_eq_true (by kernel_rfl)) h0 bel lt0) (trodAll_cons_mk (Below.trod laidOut (by kernel_rfl) (of_decide_eq_true (by kernel_rfl)) h1 bel lt1) (trodAll_cons_mk (Below.trod laidOut (by kernel_rfl) (of_decide_eq_true (by kernel_rfl)) h2 bel lt2) (trodAll_cons_mk (Below.trod laidOut (by kernel_rfl) (of_decide_eq_true (by kernel_rfl)) h3 bel lt3) trodAll_mk0)))), rfl, bel.frame _, fun h => by cases h⟩
theorem over : Rows.prosodyStretchesRow.holds Try.pinned (OpenSpec.ofChange Rows.prosodyStretchesSpec) :=
 OpenClaim.holds_of_wide 9 Try.f9 rfl rfl rfl rfl rfl rfl rfl ⟨rfl, rfl, rfl, rfl, rfl⟩ rfl rfl rfl rfl rfl (by kernel_rfl) Try.func9 (by kernel_rfl)
  (of_decide_eq_true (by kernel_rfl)) (by unfold Func.isWrapper; first | (rw [if_pos (by decide +kernel)]; kernel_rfl) | (rw [if_neg (by decide +kernel)]; exact ⟨rfl, rfl⟩))
  (fun os started H enc _ => lifted os started H enc)
theorem prosodyStretches_holds : Rows.ProsodyStretchesSaid := over
#print axioms prosodyStretches_holds
end Go.Proofs.Ytgicpobploinhaa
