/- A constraint that is added at the end: true for every input. -/
import Derived.Test.YtgicpobploinhaaP6
import Derived.Test.YtgicpobploinhaaProg
import Derived.Test.YtgicpobploinhaaRows
set_option linter.unusedVariables false
set_option maxRecDepth 20000
set_option maxHeartbeats 4000000
namespace Go.Proofs.Ytgicpobploinhaa
open Go Go.Ab Go.Proofs
def an7 : An := { imm := [], jn := [(2, [0, 1, 26]), (5, [5, 6, 7]), (6, [0, 1]), (8, [1, 9, 10, 12, 13])], lp := [], loud := [], ord := [] }
def vc7 (C : Cb) (a0 a1 : V) (H : Hp) (R : List V → Hp → Prop) : Prop :=
 Jn (fun l1 H2 =>
 aCond (l1.getD 2 .junk).nod (
 C.callE 15 [] H2 fun v4 H5 =>
 R [v4] H5) (
 Jn (fun l6 H7 =>
 C.callE 26 [(l6.getD 0 .junk).nod.nod, (l6.getD 1 .junk).nod.nod] H7 fun v9 H10 =>
 C.aExt 0 v9.nod.nod fun v11 =>
 C.aExt 1 v9.nod.nod fun v12 =>
 C.aExt 2 v9.nod.nod fun v13 =>
 Jn (fun l14 H15 =>
 C.aBin (Try.prog.underlying 28) .eql (l14.getD 2 .junk).nod.nod (I 0) fun v17 =>
 Jv (fun v18 H19 =>
 Jv (fun v22 H23 =>
 Jv (fun v28 H29 =>
 Jv (fun v36 H37 =>
 R [v36] H37)
 (fun R38 =>
 aG v28.nod true (
 C.callE 15 [] H29 fun v39 H40 =>
 R38 v39.nod H40) (
 R38 (B false) H29)))
 (fun R30 =>
 aG v22.nod true (
 C.aLen (l14.getD 0 .junk).nod.nod fun v31 =>
 C.aBin (Try.prog.underlying 3) .sub v31.nod (I 1) fun v32 =>
 C.aSlc 1 (l14.getD 1 .junk).nod.nod none (some v32.nod) none fun v33 =>
 C.callE 25 [v33.nod, (l14.getD 3 .junk).nod.nod] H23 fun v34 H35 =>
 R30 v34.nod H35) (
 R30 (B false) H23)))
 (fun R24 =>
 aG v18.nod true (
 C.aLen (l14.getD 1 .junk).nod.nod fun v25 =>
 C.aLen (l14.getD 0 .junk).nod.nod fun v26 =>
 C.aBin (Try.prog.underlying 3) .eql v25.nod v26.nod fun v27 =>
 R24 v27.nod H19) (
 R24 (B false) H19)))
 (fun R20 =>
 aG v17.nod true (
 C.aBin (Try.prog.underlying 28) .eql (l14.getD 4 .junk).nod.nod (I 0) fun v21 =>
 R20 v21.nod H15) (
 R20 (B false) H15)))
 (fun R16 =>
 C.aLen (l6.getD 1 .junk).nod.nod fun v41 =>
 C.aBin (Try.prog.underlying 3) .sub v41.nod (I 1) fun v42 =>
 C.aSlc 3 (l6.getD 1 .junk).nod.nod none (some v42.nod) none fun v43 =>
 C.callE 26 [(l6.getD 0 .junk).nod.nod, v43.nod] H10 fun v44 H45 =>
 C.aExt 0 v44.nod.nod fun v46 =>
 C.aExt 1 v44.nod.nod fun v47 =>
 C.aExt 2 v44.nod.nod fun v48 =>
 R16 [(l6.getD 1 .junk), v12, v13, v47, v48] H45))
 (fun R8 =>
 C.aLen (l1.getD 1 .junk).nod.nod fun v49 =>
 C.aBin (Try.prog.underlying 3) .eql v49.nod (I 0) fun v50 =>
 aCond v50.nod (
 Jn (fun l51 H52 =>
 C.aBin (Try.prog.underlying 28) .eql (l51.getD 2 .junk).nod.nod (I 0) fun v54 =>
 Jv (fun v55 H56 =>
 Jv (fun v60 H61 =>
 Jv (fun v66 H67 =>
 R [v66] H67)
 (fun R68 =>
 aG v60.nod true (
 C.callE 15 [] H61 fun v69 H70 =>
 R68 v69.nod H70) (
 R68 (B false) H61)))
 (fun R62 =>
 aG v55.nod true (
 C.callE 30 [(l51.getD 0 .junk).nod.nod] H56 fun v63 H64 =>
 C.aBin (Try.prog.underlying 3) .eql v63.nod (I 0) fun v65 =>
 R62 v65.nod H64) (
 R62 (B false) H56)))
 (fun R57 =>
 aG v54.nod true (
 C.aLen (l51.getD 1 .junk).nod.nod fun v58 =>
 C.aBin (Try.prog.underlying 3) .eql v58.nod (I 0) fun v59 =>
 R57 v59.nod H52) (
 R57 (B false) H52)))
 (fun R53 =>
 C.callE 26 [(l1.getD 0 .junk).nod.nod, (V.arr [] .full)] H2 fun v71 H72 =>
 C.aExt 0 v71.nod.nod fun v73 =>
 C.aExt 1 v71.nod.nod fun v74 =>
 C.aExt 2 v71.nod.nod fun v75 =>
 R53 [v73, v74, v75] H72)) (
 R8 [(l1.getD 0 .junk), (l1.getD 1 .junk)] H2))))
 (fun R3 =>
 C.aLen a0.nod.nod fun v76 =>
 C.aBin (Try.prog.underlying 3) .gtr v76.nod (I 30) fun v77 =>
 Jv (fun v78 H79 =>
 Jv (fun v84 H85 =>
 R3 [a0, a1, v84] H85)
 (fun R86 =>
 aG v78.nod false (
 C.callE 28 [a1.nod.nod] H79 fun v87 H88 =>
 C.aUn .not v87.nod fun v89 =>
 R86 v89.nod H88) (
 R86 (B true) H79)))
 (fun R80 =>
 aG v77.nod false (
 C.callE 27 [a0.nod.nod] H fun v81 H82 =>
 C.aUn .not v81.nod fun v83 =>
 R80 v83.nod H82) (
 R80 (B true) H)))
theorem wf7 : (Nat.ble 2 Try.f7.ntmps && wfC an7 Try.f7.ntmps (Try.f7.body.getD .skip)) = true := by kernel_rfl
theorem tie7 (C : Cb) (a0 a1 : V) (H : Hp) (R : List V → Hp → Prop) : wpG Try.prog C an7 (Try.f7.body.getD .skip) (argF [a0, a1]) H (retG Try.prog C Try.f7 R) (fun _ _ _ => False) (retG Try.prog C Try.f7 R) = vc7 C a0 a1 H R := by kernel_rfl
theorem mk7 (a0 a1 : V) {H : Hp} {v : V} {H1 : Hp} (hd : v.Nd) (hn : H.length ≤ H1.length) (hb : H1 = H ∨ ∀ (b : Nat) (blk : Blk), H1[b]? = some blk → H[b]? = some blk ∨ BelB H1.length blk) (h : vc7 (real Try.prog) a0 a1 H (retF v H1)) : Ret Try.prog 7 [a0, a1] H v H1 :=
 ret_mk (an := an7) hm Try.call7 Try.func7 rfl wf7 hd hn hb (Eq.mpr (tie7 (real Try.prog) a0 a1 H (retF v H1)) h)
theorem mkE7 (a0 a1 : V) {H : Hp} {Q : V → Hp → Prop} (h : vc7 (real Try.prog) a0 a1 H (retW Q)) : RetE Try.prog 7 [a0, a1] H Q :=
 retE_mk (an := an7) hm Try.call7 Try.func7 rfl wf7 (Eq.mpr (tie7 (real Try.prog) a0 a1 H (retW Q)) h)
theorem mko7 (a0 a1 : V) {H : Hp} {xs : List V} {H1 : Hp} (hn : H.length ≤ H1.length) (hb : H1 = H ∨ ∀ (b : Nat) (blk : Blk), H1[b]? = some blk → H[b]? = some blk ∨ BelB H1.length blk) (h : vc7 (real Try.prog) a0 a1 H (retO xs H1)) : Ret Try.prog 7 [a0, a1] H (.arr xs .own) H1 :=
 ret_mko (an := an7) (t := 4) hm Try.call7 Try.func7 rfl wf7 rfl hn hb (Eq.mpr (tie7 (real Try.prog) a0 a1 H (retO xs H1)) h)
end Go.Proofs.Ytgicpobploinhaa
set_option linter.unusedSimpArgs false
set_option linter.unnecessarySimpa false
set_option maxHeartbeats 2000000
namespace Go.Proofs.Ytgicpobploinhaa
open Go Go.Ab Go.Proofs
attribute [local congr] g_bin g_nilS g_nilP g_un g_ext g_bx g_fa g_ld g_st g_ix g_ixA g_slc g_mk g_bs g_bd g_nc g_cv g_len g_lenT g_app g_appB g_cpy g_mm g_call g_callG g_calm g_calmG g_range g_res g_pick g_cond g_loop g_Jv g_eqS g_eqP g_fd g_ixT g_ta g_lkp g_upd g_mkM g_appS g_inv g_callE g_callEG g_invE g_zr g_wr
theorem lexL_take : ∀ (m : Nat) (a b : List Int), lexL (a.take m) (b.take m) = true → lexL a b = true
 | 0, a, b, h => by rw [List.take_zero, List.take_zero] at h; cases h
 | m + 1, [], b, h => by rw [List.take_nil] at h; cases h
 | m + 1, x :: a, [], h => by cases h
 | m + 1, x :: a, y :: b, h => by
  rw [List.take_succ_cons, List.take_succ_cons] at h
  unfold lexL at h ⊢
  by_cases e : x = y
  ·rw [if_pos e] at h ⊢
   exact lexL_take m a b h
  ·rw [if_neg e] at h ⊢
   exact h
theorem okRs_take {rs : List Rk} (h : okRs rs = true) (m : Nat) : okRs (rs.take m) = true := by
 obtain ⟨h1, h2⟩ := okRs_p h
 unfold okRs
 rw [Bool.and_eq_true, decide_eq_true_eq, List.all_eq_true]
 exact ⟨by rw [List.length_take]; omega, fun r hr => h2 r (List.mem_of_mem_take hr)⟩
theorem vios_take (ws : List Wd) (b : List Int) (rs : List Rk) (m : Nat) : vios ws b (rs.take m) = (vios ws b rs).take m := by
 unfold vios
 rw [List.map_take]
theorem added (ws : List Wd) (rs : List Rk) (hw : okWs ws = true) (hr : okRs rs = true) (m : Nat) : (vios ws (bB ws rs) rs).take m = vios ws (bB ws (rs.take m)) (rs.take m) := by
 have hr2 := okRs_take hr m
 have h1 := (best ws (rs.take m) hw hr2).m (bB ws rs) (bB_ok ws rs)
 have h2 := (best ws rs hw hr).m (bB ws (rs.take m)) (bB_ok ws (rs.take m))
 rw [vios_take] at h1
 refine lexL_tri _ _ (by rw [← vios_take, vios_len, vios_len]) h1 ?_
 rw [vios_take] at h1 ⊢
 cases h : lexL ((vios ws (bB ws (rs.take m)) rs).take m) ((vios ws (bB ws rs) rs).take m) with
 | false => rfl
 | true =>
  have := lexL_take m _ _ h
  rw [this] at h2; cases h2
theorem bst_nil {S : Sr} (h : S.rs = []) (s : Stt) : (bst S s).2 = 0 := by
 unfold bst
 cases hk : S.ws.length - 1 - s.g with
 | zero => rfl
 | succ k =>
  have hl : ∀ l, addL (decL S s l) (bestP S k (nxt S s l)).1 = [] := fun l => List.length_eq_zero_iff.1 (by
   rw [addL_len _ _ (by rw [decL_len, bestP_is]), decL_len, h]; rfl)
  show (chs S _ _ _).2 = 0
  rw [hl, hl, hl]; rfl
theorem brk_nil {S : Sr} (h : S.rs = []) : ∀ (k : Nat) (s : Stt), (brk S k s).sum = 0
 | 0, _ => rfl
 | k + 1, s => by
  show ((bst S s).2 :: brk S k (nxt S s (bst S s).2)).sum = 0
  rw [List.sum_cons, bst_nil h, brk_nil h k]; rfl
theorem slc_rk (l : List Rk) (f : Fl) (j : Int) {K : V → Prop} : aSlc 3 (.arr (l.map rkV) f) none (some (I j)) none K = (0 ≤ j ∧ j ≤ l.length ∧ K (.arr ((l.take j.toNat).map rkV) .no)) := e_slcHiE rkV (fun _ => rfl) l f j
theorem brV_ok {ws : List Wd} {rs : List Rk} (hw : okWs ws = true) (hr : okRs rs = true) : brV ws rs = .tup [ints (bB ws rs) .no, ints (vios ws (bB ws rs) rs) .no, I 0] := by
 unfold brV
 rw [hw, hr]; rfl
theorem c7 (ws : List Wd) (rs : List Rk) (H : Hp) (w0 : ws.length ≤ 9223372036854775807) (w1 : rs.length ≤ 9223372036854775807) : Ret Try.prog 7 [.arr (ws.map wdV) .no, .arr (rs.map rkV) .no] H (B true) H := by
 refine mk7 _ _ rfl (Nat.le_refl _) (.inl rfl) ?_
 simp only [vc7, real]
 repeat (first | (with_reducible first | refine Ju.go ?_ | (refine Hd.go ?_; intro K Q hK hQ; simp only [nod_arr, nd_no, e_lenA, List.length_map, nod_imm, Try.underlying3, e_gtr, e_gF]; subst hK hQ) | refine Jr.go ?_) | refine sd ?_)
 generalize hR : Rn _ = R
 have kn : R [.arr (ws.map wdV) .no, .arr (rs.map rkV) .no, B true] H := by
  subst hR
  repeat (first | (with_reducible first | refine Ju.go ?_ | (refine Hd.go ?_; intro K Q hK hQ; simp only [List.getD_cons_succ, List.getD_cons_zero, nod_imm, e_cond, if_true]; subst hK hQ) | refine Jr.go ?_) | refine sd ?_)
  refine call_of (c15 _) ?_
  repeat (first | (with_reducible first | refine Ju.go ?_ | (refine Hd.go ?_; intro K Q hK hQ; simp only []; subst hK hQ) | refine Jr.go ?_) | refine sd ?_)
  exact end1 (fzI _)
 have key : okWs ws = true → okRs rs = true → R [.arr (ws.map wdV) .no, .arr (rs.map rkV) .no, B false] H := by
  intro hw hr
  clear kn
  subst hR
  have hrl := (okRs_p hr).1
  have hwl := (okWs_p hw).1
  by_cases h0 : rs.length = 0
  ·have d : (rs.length : Int) = 0 := by omega
   have hb := okBr_iff.1 (bB_ok ws [])
   have c := c26' ws [] H w0 (Nat.zero_le _)
   rw [brV_ok hw rfl] at c
   have hs : (bB ws []).sum = 0 := by
    obtain ⟨-, -, sr⟩ := srI_ok (rs := []) hw rfl 0 (Nat.le_refl _)
    exact brk_nil sr _ _
   have c2 := c30 (bB ws []) H (by omega) (fun x hx => by have := hb.2 x hx; omega) .no (.inl rfl)
   rw [hs] at c2
   repeat (first | (with_reducible first | refine Ju.go ?_ | (refine Hd.go ?_; intro K Q hK hQ; simp only [List.getD_cons_succ, List.getD_cons_zero, nod_imm, e_cond, Bool.false_eq_true, if_false, nod_arr, nd_no, e_lenA, List.length_map, d, Try.underlying3, e_eql, decide_true, if_true]; subst hK hQ) | refine Jr.go ?_) | refine sd ?_)
   refine call_wk c (.cons (.refl _) (.cons (.full _) .nil)) ?_
   repeat (first | (with_reducible first | refine Ju.go ?_ | (refine Hd.go ?_; intro K Q hK hQ; simp only [nod_tup, List.map_cons, nod2_ints, nd_no, nod2_imm, List.map_nil, e_x30, e_x31, e_x32, List.getD_cons_succ, List.getD_cons_zero, nod_imm, e_eql, decide_true, nod_ints, Try.underlying3, e_len, e_gT, cond_true, j_one]; subst hK hQ) | refine Jr.go ?_) | refine sd ?_)
   refine call_of c2 ?_
   repeat (first | (with_reducible first | refine Ju.go ?_ | (refine Hd.go ?_; intro K Q hK hQ; simp only [nod_imm, e_eql, decide_true, e_gT, cond_true]; subst hK hQ) | refine Jr.go ?_) | refine sd ?_)
   refine call_of (c15 _) ?_
   repeat (first | (with_reducible first | refine Ju.go ?_ | (refine Hd.go ?_; intro K Q hK hQ; simp only [nod_imm]; subst hK hQ) | refine Jr.go ?_) | refine sd ?_)
   exact end1 (fzI _)
  ·have d : ¬ (rs.length : Int) = 0 := by omega
   have r0 : R64 ((rs.length : Int) - 1) := by unfold R64; omega
   have hr2 := okRs_take hr (rs.length - 1)
   have e1 : ((rs.length : Int) - 1).toNat = rs.length - 1 := by omega
   have g0 : 0 ≤ (rs.length : Int) - 1 := by omega
   have g1 : (rs.length : Int) - 1 ≤ rs.length := by omega
   have c := c26' ws rs H w0 w1
   have c2 := c26' ws (rs.take (rs.length - 1)) H w0 (by rw [List.length_take]; omega)
   rw [brV_ok hw hr] at c
   rw [brV_ok hw hr2] at c2
   have hA := added ws rs hw hr (rs.length - 1)
   have hv := vios_len ws (bB ws rs) rs
   rw [← hA] at c2
   generalize vios ws (bB ws rs) rs = v at *
   have c3 := c25 (v.take (rs.length - 1)) (v.take (rs.length - 1)) .no .no H (by rw [List.length_take]; omega) (.inl rfl) (.inl rfl)
   rw [decide_eq_true rfl] at c3
   have dv : decide ((v.length : Int) = rs.length) = true := decide_eq_true (by omega)
   have g2 : (rs.length : Int) - 1 ≤ v.length := by omega
   repeat (first | (with_reducible first | refine Ju.go ?_ | (refine Hd.go ?_; intro K Q hK hQ; simp only [List.getD_cons_succ, List.getD_cons_zero, nod_imm, e_cond, Bool.false_eq_true, if_false, nod_arr, nd_no, e_lenA, List.length_map, Try.underlying3, e_eql, d, decide_false]; subst hK hQ) | refine Jr.go ?_) | refine sd ?_)
   refine call_of c ?_
   repeat (first | (with_reducible first | refine Ju.go ?_ | (refine Hd.go ?_; intro K Q hK hQ; simp only [nod_tup, List.map_cons, nod2_ints, nd_no, nod2_imm, List.map_nil, e_x30, e_x31, e_x32, List.getD_cons_succ, List.getD_cons_zero, nod_arr, e_lenA, List.length_map, nod_imm, Try.underlying3, e_sub, r0, true_and, slc_rk, g0, g1, e1]; subst hK hQ) | refine Jr.go ?_) | refine sd ?_)
   refine call_of c2 ?_
   repeat (first | (with_reducible first | refine Ju.go ?_ | (refine Hd.go ?_; intro K Q hK hQ; simp only [nod_tup, List.map_cons, nod2_ints, nd_no, nod2_imm, List.map_nil, e_x30, e_x31, e_x32, List.getD_cons_succ, List.getD_cons_zero, nod_imm, e_eql, decide_true, e_gT, cond_true, j_one, nod_ints, nod_arr, Try.underlying3, e_lenA, List.length_map, e_len, dv, e_sub, r0, e_slcHi, g0, g2, e1, true_and]; subst hK hQ) | refine Jr.go ?_) | refine sd ?_)
   refine call_of c3 ?_
   repeat (first | (with_reducible first | refine Ju.go ?_ | (refine Hd.go ?_; intro K Q hK hQ; simp only [nod_imm, e_gT, cond_true]; subst hK hQ) | refine Jr.go ?_) | refine sd ?_)
   refine call_of (c15 _) ?_
   repeat (first | (with_reducible first | refine Ju.go ?_ | (refine Hd.go ?_; intro K Q hK hQ; simp only [nod_imm]; subst hK hQ) | refine Jr.go ?_) | refine sd ?_)
   exact end1 (fzI _)
 by_cases h4 : 30 < (ws.length : Int)
 ·repeat (first | (with_reducible first | refine Ju.go ?_ | (refine Hd.go ?_; intro K Q hK hQ; simp only [h4, decide_true, cond_true, nod_imm, nod_arr, nd_no, e_gF, j_one]; subst hK hQ) | refine Jr.go ?_) | refine sd ?_)
  exact kn
 ·repeat (first | (with_reducible first | refine Ju.go ?_ | (refine Hd.go ?_; intro K Q hK hQ; simp only [h4, decide_false, cond_false]; subst hK hQ) | refine Jr.go ?_) | refine sd ?_)
  refine call_of (c27 ws H w0) ?_
  cases hw : okWs ws
  ·repeat (first | (with_reducible first | refine Ju.go ?_ | (refine Hd.go ?_; intro K Q hK hQ; simp only [nod_imm, e_not, Bool.not_false, nod_arr, nd_no, e_gF, cond_true, j_one]; subst hK hQ) | refine Jr.go ?_) | refine sd ?_)
   exact kn
  ·repeat (first | (with_reducible first | refine Ju.go ?_ | (refine Hd.go ?_; intro K Q hK hQ; simp only [nod_imm, e_not, Bool.not_true, nod_arr, nd_no, e_gF, cond_false]; subst hK hQ) | refine Jr.go ?_) | refine sd ?_)
   refine call_of (c28 rs H w1) ?_
   cases hr : okRs rs
   ·repeat (first | (with_reducible first | refine Ju.go ?_ | (refine Hd.go ?_; intro K Q hK hQ; simp only [nod_imm, e_not, Bool.not_false]; subst hK hQ) | refine Jr.go ?_) | refine sd ?_)
    exact kn
   ·repeat (first | (with_reducible first | refine Ju.go ?_ | (refine Hd.go ?_; intro K Q hK hQ; simp only [nod_imm, e_not, Bool.not_true]; subst hK hQ) | refine Jr.go ?_) | refine sd ?_)
    exact key hw hr
open Go.ChangeShapes Go.WideShapes Go.ChangeAt Go.RowKit
theorem own : ownKnob Try.prog.godebug = none := by kernel_rfl
theorem laidOut : laidOutB Try.prog = true := by kernel_rfl
set_option maxRecDepth 100000 in
theorem lifted (os : Os) (started : os.Started) (H : Type) (enc : TypeId × Value → H) :
    ReturnsInHanded {} Try.checked os 7 .any (Rows.prosodyAddedSpec.pre6 enc Try.prog Try.f7 Rows.prosodyAddedRow.domain false) (Rows.prosodyAddedSpec.post enc Try.prog Try.f7 false true false false) := by
  refine returnsInHanded_of_change (C := Try.checked) own started (by kernel_rfl) Try.func7
    (ChangeSpec.witness6 (enc := enc) (C := Try.checked) false ⟨#[], #[.slice none 0 0, .slice none 0 0], []⟩ 8 (by kernel_rfl) (by kernel_rfl) (by kernel_rfl) (by kernel_rfl)) ?_
  intro W base args ds gs before hval0 hW hcnd _
  have hval : ∀ (j : Nat) t v, Try.f7.params[j]? = some t → args[j]? = some v → Value.okWide Try.prog W .any base t v := hval0
  have hW' := hW
  obtain ⟨p, q, hA0, hV, rfl, hfz, hnd⟩ := hW
  have hA : DataW.TrodAll enc Try.prog W 0 (fun _ => true) true Try.f7.params.toList args.toList ds p := hA0
  rw [Try.params7] at hA hval
  obtain ⟨v0, vs0, d0, ds0, p0, q0, hargs, rfl, rfl, h0, r0⟩ := trodAll_cons hA
  obtain ⟨v1, vs1, d1, ds1, p1, q1, rfl, rfl, rfl, h1, r1⟩ := trodAll_cons r0
  obtain ⟨rfl, rfl, rfl⟩ := trodAll_nil r1
  obtain rfl : args = #[v0, v1] := by cases args; simp_all
  obtain ⟨rfl, rfl⟩ := trodVars_none hV
  have lt0 : ∀ x ∈ p0, x.block < W.heap.size := by obtain ⟨m, hm⟩ := h0; exact DataW.trod_lt m _ _ _ hm
  obtain ⟨l0, w0, e0⟩ := in_words (hval 0 _ v0 rfl rfl) h0
  have lt1 : ∀ x ∈ p1, x.block < W.heap.size := by obtain ⟨m, hm⟩ := h1; exact DataW.trod_lt m _ _ _ hm
  obtain ⟨l1, w1, e1⟩ := in_ranks (hval 1 _ v1 rfl rfl) h1
  clear hA0 hval0
  refine (bridge (args := [.arr (l0.map wdV) .no, .arr (l1.map rkV) .no]) (ra := #[v0, v1]) (c7 l0 l1 [] w0 w1) rfl (by intro a ha; simp at ha; rcases ha with rfl | rfl <;> rfl) (fun i => ?_)).mono fun e W' ⟨he, bel⟩ => ?_
  · match i with
    | 0 => exact e0
    | 1 => exact e1
    | i + 2 => exact .junk _
  · subst he
    exact ⟨_, rfl, _, _, _, [], _, [], hW', trodAll_mk1 (shut_bool Try.underlying4 _), (trodAll_cons_mk (Below.trod laidOut (by kernel_rfl) (of_decide_eq_true (by kernel_rfl)) h0 bel lt0) (trodAll_cons_mk (Below.trod laidOut (by kernel_rfl) (of_decide_eq_true (by kernel_rfl)) h1 bel lt1) trodAll_mk0)), rfl, bel.frame _, fun h => by cases h⟩
theorem over : Rows.prosodyAddedRow.holds Try.pinned (OpenSpec.ofChange Rows.prosodyAddedSpec) :=
 OpenClaim.holds_of_wide 7 Try.f7 rfl rfl rfl rfl rfl rfl rfl ⟨rfl, rfl, rfl, rfl, rfl⟩ rfl rfl rfl rfl rfl (by kernel_rfl) Try.func7 (by kernel_rfl)
  (of_decide_eq_true (by kernel_rfl)) (by unfold Func.isWrapper; first | (rw [if_pos (by decide +kernel)]; kernel_rfl) | (rw [if_neg (by decide +kernel)]; exact ⟨rfl, rfl⟩))
  (fun os started H enc _ => lifted os started H enc)
theorem prosodyAdded_holds : Rows.ProsodyAddedSaid := over
#print axioms prosodyAdded_holds
end Go.Proofs.Ytgicpobploinhaa
