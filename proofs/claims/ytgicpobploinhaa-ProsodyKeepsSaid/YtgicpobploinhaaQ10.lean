/- Stretching durations to their own sum changes nothing if none is less than its least one: true for every input. -/
import Derived.Test.YtgicpobploinhaaP5
import Derived.Test.YtgicpobploinhaaProg
import Derived.Test.YtgicpobploinhaaRows
set_option linter.unusedVariables false
set_option maxRecDepth 20000
set_option maxHeartbeats 4000000
namespace Go.Proofs.Ytgicpobploinhaa
open Go Go.Ab Go.Proofs
def an10 : An := { imm := [], jn := [(2, [0, 1, 2, 29]), (4, [0, 7, 8])], lp := [], loud := [], ord := [] }
def vc10 (C : Cb) (a0 a1 a2 : V) (H : Hp) (R : List V → Hp → Prop) : Prop :=
 Jn (fun l1 H2 =>
 aCond (l1.getD 3 .junk).nod (
 C.callE 15 [] H2 fun v4 H5 =>
 R [v4] H5) (
 Jn (fun l6 H7 =>
 C.aBin (Try.prog.underlying 28) .eql (l6.getD 2 .junk).nod.nod (I 0) fun v9 =>
 Jv (fun v10 H11 =>
 Jv (fun v15 H16 =>
 R [v15] H16)
 (fun R17 =>
 aG v10.nod true (
 C.callE 15 [] H11 fun v18 H19 =>
 R17 v18.nod H19) (
 R17 (B false) H11)))
 (fun R12 =>
 aG v9.nod true (
 C.callE 25 [(l6.getD 1 .junk).nod.nod, (l6.getD 0 .junk).nod.nod] H7 fun v13 H14 =>
 R12 v13.nod H14) (
 R12 (B false) H7)))
 (fun R8 =>
 C.callE 30 [(l1.getD 0 .junk).nod.nod] H2 fun v20 H21 =>
 C.callE 35 [(l1.getD 0 .junk).nod.nod, (l1.getD 1 .junk).nod.nod, (l1.getD 2 .junk).nod.nod, v20.nod] H21 fun v22 H23 =>
 C.aExt 0 v22.nod.nod fun v24 =>
 C.aExt 1 v22.nod.nod fun v25 =>
 R8 [(l1.getD 0 .junk), v24, v25] H23)))
 (fun R3 =>
 C.aLen a0.nod.nod fun v26 =>
 C.aBin (Try.prog.underlying 3) .gtr v26.nod (I 200) fun v27 =>
 Jv (fun v28 H29 =>
 Jv (fun v34 H35 =>
 Jv (fun v40 H41 =>
 R3 [a0, a1, a2, v40] H41)
 (fun R42 =>
 aG v34.nod false (
 C.callE 30 [a0.nod.nod] H35 fun v43 H44 =>
 C.aBin (Try.prog.underlying 3) .gtr v43.nod (I 60000) fun v45 =>
 R42 v45.nod H44) (
 R42 (B true) H35)))
 (fun R36 =>
 aG v28.nod false (
 C.callE 38 [a1.nod.nod, a0.nod.nod] H29 fun v37 H38 =>
 C.aUn .not v37.nod fun v39 =>
 R36 v39.nod H38) (
 R36 (B true) H29)))
 (fun R30 =>
 aG v27.nod false (
 C.callE 36 [a0.nod.nod, a1.nod.nod, a2.nod.nod, (I 0)] H fun v31 H32 =>
 C.aUn .not v31.nod fun v33 =>
 R30 v33.nod H32) (
 R30 (B true) H)))
theorem wf10 : (Nat.ble 3 Try.f10.ntmps && wfC an10 Try.f10.ntmps (Try.f10.body.getD .skip)) = true := by kernel_rfl
theorem tie10 (C : Cb) (a0 a1 a2 : V) (H : Hp) (R : List V → Hp → Prop) : wpG Try.prog C an10 (Try.f10.body.getD .skip) (argF [a0, a1, a2]) H (retG Try.prog C Try.f10 R) (fun _ _ _ => False) (retG Try.prog C Try.f10 R) = vc10 C a0 a1 a2 H R := by kernel_rfl
theorem mk10 (a0 a1 a2 : V) {H : Hp} {v : V} {H1 : Hp} (hd : v.Nd) (hn : H.length ≤ H1.length) (hb : H1 = H ∨ ∀ (b : Nat) (blk : Blk), H1[b]? = some blk → H[b]? = some blk ∨ BelB H1.length blk) (h : vc10 (real Try.prog) a0 a1 a2 H (retF v H1)) : Ret Try.prog 10 [a0, a1, a2] H v H1 :=
 ret_mk (an := an10) hm Try.call10 Try.func10 rfl wf10 hd hn hb (Eq.mpr (tie10 (real Try.prog) a0 a1 a2 H (retF v H1)) h)
theorem mkE10 (a0 a1 a2 : V) {H : Hp} {Q : V → Hp → Prop} (h : vc10 (real Try.prog) a0 a1 a2 H (retW Q)) : RetE Try.prog 10 [a0, a1, a2] H Q :=
 retE_mk (an := an10) hm Try.call10 Try.func10 rfl wf10 (Eq.mpr (tie10 (real Try.prog) a0 a1 a2 H (retW Q)) h)
theorem mko10 (a0 a1 a2 : V) {H : Hp} {xs : List V} {H1 : Hp} (hn : H.length ≤ H1.length) (hb : H1 = H ∨ ∀ (b : Nat) (blk : Blk), H1[b]? = some blk → H[b]? = some blk ∨ BelB H1.length blk) (h : vc10 (real Try.prog) a0 a1 a2 H (retO xs H1)) : Ret Try.prog 10 [a0, a1, a2] H (.arr xs .own) H1 :=
 ret_mko (an := an10) (t := 6) hm Try.call10 Try.func10 rfl wf10 rfl hn hb (Eq.mpr (tie10 (real Try.prog) a0 a1 a2 H (retO xs H1)) h)
end Go.Proofs.Ytgicpobploinhaa
set_option linter.unusedSimpArgs false
set_option linter.unnecessarySimpa false
set_option maxHeartbeats 2000000
namespace Go.Proofs.Ytgicpobploinhaa
open Go Go.Ab Go.Proofs
attribute [local congr] g_bin g_nilS g_nilP g_un g_ext g_bx g_fa g_ld g_st g_ix g_ixA g_slc g_mk g_bs g_bd g_nc g_cv g_len g_lenT g_app g_appB g_cpy g_mm g_call g_callG g_calm g_calmG g_range g_res g_pick g_cond g_loop g_Jv g_eqS g_eqP g_fd g_ixT g_ta g_lkp g_upd g_mkM g_appS g_inv g_callE g_callEG g_invE g_zr g_wr
theorem c10 (d l s : List Int) (H : Hp) (w0 : d.length ≤ 9223372036854775807) (w1 : l.length ≤ 9223372036854775807) (w2 : s.length ≤ 9223372036854775807) : Ret Try.prog 10 [ints d .no, ints l .no, ints s .no] H (B true) H := by
 refine mk10 _ _ _ rfl (Nat.le_refl _) (.inl rfl) ?_
 simp only [vc10, real]
 repeat (first | (with_reducible first | refine Ju.go ?_ | (refine Hd.go ?_; intro K Q hK hQ; simp only [nod_ints, nd_no, e_len, nod_imm, Try.underlying3, e_gtr, e_gF]; subst hK hQ) | refine Jr.go ?_) | refine sd ?_)
 generalize hR : Rn _ = R
 have kn : R [ints d .no, ints l .no, ints s .no, B true] H := by
  subst hR
  repeat (first | (with_reducible first | refine Ju.go ?_ | (refine Hd.go ?_; intro K Q hK hQ; simp only [List.getD_cons_succ, List.getD_cons_zero, nod_imm, e_cond, if_true]; subst hK hQ) | refine Jr.go ?_) | refine sd ?_)
  refine call_of (c15 _) ?_
  repeat (first | (with_reducible first | refine Ju.go ?_ | (refine Hd.go ?_; intro K Q hK hQ; simp only []; subst hK hQ) | refine Jr.go ?_) | refine sd ?_)
  exact end1 (fzI _)
 by_cases h2 : 200 < (d.length : Int)
 ·repeat (first | (with_reducible first | refine Ju.go ?_ | (refine Hd.go ?_; intro K Q hK hQ; simp only [h2, decide_true, cond_true, nod_imm, nod_ints, nd_no, e_gF, j_one, Try.underlying3]; subst hK hQ) | refine Jr.go ?_) | refine sd ?_)
  exact kn
 ·repeat (first | (with_reducible first | refine Ju.go ?_ | (refine Hd.go ?_; intro K Q hK hQ; simp only [h2, decide_false, cond_false]; subst hK hQ) | refine Jr.go ?_) | refine sd ?_)
  refine call_of (c36 d l s 0 H w0 w1 w2) ?_
  rw [show inB 0 0 60000 = true from rfl, Bool.and_true]
  cases ho : okPh d l s
  ·repeat (first | (with_reducible first | refine Ju.go ?_ | (refine Hd.go ?_; intro K Q hK hQ; simp only [nod_imm, e_not, Bool.not_false, nod_ints, nd_no, e_gF, cond_true, j_one, Try.underlying3]; subst hK hQ) | refine Jr.go ?_) | refine sd ?_)
   exact kn
  ·have hp := okPh_Ph ho
   repeat (first | (with_reducible first | refine Ju.go ?_ | (refine Hd.go ?_; intro K Q hK hQ; simp only [nod_imm, e_not, Bool.not_true, nod_ints, nd_no, e_gF, cond_false]; subst hK hQ) | refine Jr.go ?_) | refine sd ?_)
   refine call_of (c38 l d H w1 w0) ?_
   cases hf : okFi l d
   ·repeat (first | (with_reducible first | refine Ju.go ?_ | (refine Hd.go ?_; intro K Q hK hQ; simp only [nod_imm, e_not, Bool.not_false, nod_ints, nd_no, Try.underlying3, e_gF, cond_true, j_one]; subst hK hQ) | refine Jr.go ?_) | refine sd ?_)
    exact kn
   ·have hdm : ∀ x, x ∈ d → -1000000 ≤ x ∧ x ≤ 1000000 := fun x hx => by
     obtain ⟨i, hi, rfl⟩ := List.mem_iff_getElem.1 hx
     have := hp.d0 i hi
     rw [List.getD_eq_getElem?_getD, List.getElem?_eq_getElem hi] at this
     have e : (some d[i]).getD 0 = d[i] := rfl
     omega
    repeat (first | (with_reducible first | refine Ju.go ?_ | (refine Hd.go ?_; intro K Q hK hQ; simp only [nod_imm, e_not, Bool.not_true, nod_ints, nd_no, Try.underlying3, e_gF, cond_false]; subst hK hQ) | refine Jr.go ?_) | refine sd ?_)
    refine call_of (c30 d H (by omega) hdm .no (.inl rfl)) ?_
    by_cases hs : 60000 < d.sum
    ·repeat (first | (with_reducible first | refine Ju.go ?_ | (refine Hd.go ?_; intro K Q hK hQ; simp only [nod_imm, e_gtr, hs, decide_true]; subst hK hQ) | refine Jr.go ?_) | refine sd ?_)
     exact kn
    ·repeat (first | (with_reducible first | refine Ju.go ?_ | (refine Hd.go ?_; intro K Q hK hQ; simp only [nod_imm, e_gtr, hs, decide_false]; subst hK hQ) | refine Jr.go ?_) | refine sd ?_)
     clear kn
     subst hR
     repeat (first | (with_reducible first | refine Ju.go ?_ | (refine Hd.go ?_; intro K Q hK hQ; simp only [List.getD_cons_succ, List.getD_cons_zero, nod_imm, e_cond, Bool.false_eq_true, if_false, nod_ints, nd_no]; subst hK hQ) | refine Jr.go ?_) | refine sd ?_)
     refine call_of (c30 d H (by have := hp.n; omega) hdm .no (.inl rfl)) ?_
     repeat (first | (with_reducible first | refine Ju.go ?_ | (refine Hd.go ?_; intro K Q hK hQ; simp only [List.getD_cons_zero, nod_ints, nd_no, List.getD_cons_succ, nod_imm]; subst hK hQ) | refine Jr.go ?_) | refine sd ?_)
     have hsr := sum_rng d 0 10000 fun x hx => by
      obtain ⟨i, hi, rfl⟩ := List.mem_iff_getElem.1 hx
      have := hp.d0 i hi
      rw [List.getD_eq_getElem?_getD, List.getElem?_eq_getElem hi] at this
      exact this
     unfold okFi at hf
     rw [Bool.and_eq_true] at hf
     have hfi : ∀ i, i < d.length → l.getD i 0 ≤ d.getD i 0 := fun i hi => by
      have := rng_all hf.2 i hi
      unfold fi1 at this
      rw [Bool.and_eq_true, decide_eq_true_eq] at this
      exact this.1
     have e : strV d l s d.sum = .tup [ints d .no, I 0] := by
      unfold strV
      rw [if_pos (by rw [ho, inB_iff.2 ⟨by omega, by omega⟩]; rfl), strP_own hp hfi]
     have c := c35 d l s d.sum H w0 w1 w2
     rw [e] at c
     refine call_of c ?_
     repeat (first | (with_reducible first | refine Ju.go ?_ | (refine Hd.go ?_; intro K Q hK hQ; simp only [nod_tup, List.map_cons, nod2_ints, nd_no, nod2_imm, List.map_nil, e_x20, e_x21, List.getD_cons_zero, List.getD_cons_succ, nod_imm, e_eql, decide_true, nod_ints, e_gT, cond_true]; subst hK hQ) | refine Jr.go ?_) | refine sd ?_)
     refine call_of (c25 d d .no .no H (by have := hp.n; omega) (.inl rfl) (.inl rfl)) ?_
     rw [decide_eq_true rfl]
     repeat (first | (with_reducible first | refine Ju.go ?_ | (refine Hd.go ?_; intro K Q hK hQ; simp only [nod_imm, e_gT, cond_true]; subst hK hQ) | refine Jr.go ?_) | refine sd ?_)
     refine call_of (c15 _) ?_
     repeat (first | (with_reducible first | refine Ju.go ?_ | (refine Hd.go ?_; intro K Q hK hQ; simp only [nod_imm]; subst hK hQ) | refine Jr.go ?_) | refine sd ?_)
     exact end1 (fzI _)
open Go.ChangeShapes Go.WideShapes Go.ChangeAt Go.RowKit
theorem own : ownKnob Try.prog.godebug = none := by kernel_rfl
theorem laidOut : laidOutB Try.prog = true := by kernel_rfl
set_option maxRecDepth 100000 in
theorem lifted (os : Os) (started : os.Started) (H : Type) (enc : TypeId × Value → H) :
    ReturnsInHanded {} Try.checked os 10 .any (Rows.prosodyKeepsSpec.pre6 enc Try.prog Try.f10 Rows.prosodyKeepsRow.domain false) (Rows.prosodyKeepsSpec.post enc Try.prog Try.f10 false true false false) := by
  refine returnsInHanded_of_change (C := Try.checked) own started (by kernel_rfl) Try.func10
    (ChangeSpec.witness6 (enc := enc) (C := Try.checked) false ⟨#[], #[.slice none 0 0, .slice none 0 0, .slice none 0 0], []⟩ 8 (by kernel_rfl) (by kernel_rfl) (by kernel_rfl) (by kernel_rfl)) ?_
  intro W base args ds gs before hval0 hW hcnd _
  have hval : ∀ (j : Nat) t v, Try.f10.params[j]? = some t → args[j]? = some v → Value.okWide Try.prog W .any base t v := hval0
  have hW' := hW
  obtain ⟨p, q, hA0, hV, rfl, hfz, hnd⟩ := hW
  have hA : DataW.TrodAll enc Try.prog W 0 (fun _ => true) true Try.f10.params.toList args.toList ds p := hA0
  rw [Try.params10] at hA hval
  obtain ⟨v0, vs0, d0, ds0, p0, q0, hargs, rfl, rfl, h0, r0⟩ := trodAll_cons hA
  obtain ⟨v1, vs1, d1, ds1, p1, q1, rfl, rfl, rfl, h1, r1⟩ := trodAll_cons r0
  obtain ⟨v2, vs2, d2, ds2, p2, q2, rfl, rfl, rfl, h2, r2⟩ := trodAll_cons r1
  obtain ⟨rfl, rfl, rfl⟩ := trodAll_nil r2
  obtain rfl : args = #[v0, v1, v2] := by cases args; simp_all
  obtain ⟨rfl, rfl⟩ := trodVars_none hV
  have lt0 : ∀ x ∈ p0, x.block < W.heap.size := by obtain ⟨m, hm⟩ := h0; exact DataW.trod_lt m _ _ _ hm
  obtain ⟨l0, w0, e0⟩ := in_is (hval 0 _ v0 rfl rfl) h0
  have lt1 : ∀ x ∈ p1, x.block < W.heap.size := by obtain ⟨m, hm⟩ := h1; exact DataW.trod_lt m _ _ _ hm
  obtain ⟨l1, w1, e1⟩ := in_is (hval 1 _ v1 rfl rfl) h1
  have lt2 : ∀ x ∈ p2, x.block < W.heap.size := by obtain ⟨m, hm⟩ := h2; exact DataW.trod_lt m _ _ _ hm
  obtain ⟨l2, w2, e2⟩ := in_is (hval 2 _ v2 rfl rfl) h2
  clear hA0 hval0
  refine (bridge (args := [ints l0 .no, ints l1 .no, ints l2 .no]) (ra := #[v0, v1, v2]) (c10 l0 l1 l2 [] w0 w1 w2) rfl (by intro a ha; simp at ha; rcases ha with rfl | rfl | rfl <;> rfl) (fun i => ?_)).mono fun e W' ⟨he, bel⟩ => ?_
  · match i with
    | 0 => exact e0
    | 1 => exact e1
    | 2 => exact e2
    | i + 3 => exact .junk _
  · subst he
    exact ⟨_, rfl, _, _, _, [], _, [], hW', trodAll_mk1 (shut_bool Try.underlying4 _), (trodAll_cons_mk (Below.trod laidOut (by kernel_rfl) (of_decide_eq_true (by kernel_rfl)) h0 bel lt0) (trodAll_cons_mk (Below.trod laidOut (by kernel_rfl) (of_decide_eq_true (by kernel_rfl)) h1 bel lt1) (trodAll_cons_mk (Below.trod laidOut (by kernel_rfl) (of_decide_eq_true (by kernel_rfl)) h2 bel lt2) trodAll_mk0))), rfl, bel.frame _, fun h => by cases h⟩
theorem over : Rows.prosodyKeepsRow.holds Try.pinned (OpenSpec.ofChange Rows.prosodyKeepsSpec) :=
 OpenClaim.holds_of_wide 10 Try.f10 rfl rfl rfl rfl rfl rfl rfl ⟨rfl, rfl, rfl, rfl, rfl⟩ rfl rfl rfl rfl rfl (by kernel_rfl) Try.func10 (by kernel_rfl)
  (of_decide_eq_true (by kernel_rfl)) (by unfold Func.isWrapper; first | (rw [if_pos (by decide +kernel)]; kernel_rfl) | (rw [if_neg (by decide +kernel)]; exact ⟨rfl, rfl⟩))
  (fun os started H enc _ => lifted os started H enc)
theorem prosodyKeeps_holds : Rows.ProsodyKeepsSaid := over
#print axioms prosodyKeeps_holds
end Go.Proofs.Ytgicpobploinhaa
