/- The law TractSources of the given program returns true for any stretches of pulses and any three numbers, and leaves all as they were. No condition. -/
import Derived.Test.YtpielcbpfbajlaaP5
import Derived.Test.YtpielcbpfbajlaaProg
import Derived.Test.YtpielcbpfbajlaaRows
set_option linter.unusedVariables false
set_option maxRecDepth 20000
set_option maxHeartbeats 4000000
namespace Go.Proofs.Ytpielcbpfbajlaa
open Go Go.Ab Go.Proofs
def an6 : An := { imm := [], jn := [(2, [0, 1, 2, 3, 35]), (5, [0, 1, 2, 3, 9, 10, 47]), (9, [1, 2, 3, 13, 14, 74]), (10, [0, 1, 2, 3, 9, 10, 11, 12, 13, 14]), (12, [1, 2, 3, 13, 14, 84]), (15, [1, 2, 3, 13, 14, 94]), (16, [1, 2, 3, 13, 14]), (17, [1, 2, 3, 13, 14, 112]), (19, [1, 2, 3, 13, 14, 124])], lp := [], loud := [], ord := [] }
def vc6 (C : Cb) (a0 a1 a2 a3 : V) (H : Hp) (R : List V → Hp → Prop) : Prop :=
 Jn (fun (l1 : List V) (H2 : Hp) =>
 aCond (l1.getD 4 .junk).nod (
 C.callE 17 [] H2 fun (v4 : V) (H5 : Hp) =>
 R [v4] H5) (
 C.callE 31 [(l1.getD 0 .junk).nod.nod] H2 fun (v6 : V) (H7 : Hp) =>
 C.aExt 0 v6.nod.nod fun (v8 : V) =>
 C.aExt 1 v6.nod.nod fun (v9 : V) =>
 Jn (fun (l10 : List V) (H11 : Hp) =>
 aCond (l10.getD 6 .junk).nod (
 C.callE 17 [] H11 fun (v13 : V) (H14 : Hp) =>
 R [v13] H14) (
 C.callE 32 [(l10.getD 0 .junk).nod.nod] H11 fun (v15 : V) (H16 : Hp) =>
 C.aExt 0 v15.nod.nod fun (v17 : V) =>
 C.aExt 1 v15.nod.nod fun (v18 : V) =>
 Jn (fun (l19 : List V) (H20 : Hp) =>
 Jn (fun (l22 : List V) (H23 : Hp) =>
 Jn (fun (l25 : List V) (H26 : Hp) =>
 aCond (l25.getD 5 .junk).nod (
 C.aBin (Try.prog.underlying 27) .eql (l25.getD 4 .junk).nod.nod (I 2) fun (v28 : V) =>
 Jv (fun (v29 : V) (H30 : Hp) =>
 Jv (fun (v34 : V) (H35 : Hp) =>
 R [v34] H35)
 (fun (R36 : V → Hp → Prop) =>
 aG v29.nod true (
 C.callE 17 [] H30 fun (v37 : V) (H38 : Hp) =>
 R36 v37.nod H38) (
 R36 (B false) H30)))
 (fun (R31 : V → Hp → Prop) =>
 aG v28.nod true (
 C.aLen (l25.getD 3 .junk).nod.nod fun (v32 : V) =>
 C.aBin (Try.prog.underlying 3) .eql v32.nod (I 0) fun (v33 : V) =>
 R31 v33.nod H26) (
 R31 (B false) H26))) (
 Jn (fun (l39 : List V) (H40 : Hp) =>
 aCond (l39.getD 5 .junk).nod (
 C.aBin (Try.prog.underlying 27) .eql (l39.getD 4 .junk).nod.nod (I 4) fun (v42 : V) =>
 Jv (fun (v43 : V) (H44 : Hp) =>
 Jv (fun (v48 : V) (H49 : Hp) =>
 R [v48] H49)
 (fun (R50 : V → Hp → Prop) =>
 aG v43.nod true (
 C.callE 17 [] H44 fun (v51 : V) (H52 : Hp) =>
 R50 v51.nod H52) (
 R50 (B false) H44)))
 (fun (R45 : V → Hp → Prop) =>
 aG v42.nod true (
 C.aLen (l39.getD 3 .junk).nod.nod fun (v46 : V) =>
 C.aBin (Try.prog.underlying 3) .eql v46.nod (I 0) fun (v47 : V) =>
 R45 v47.nod H40) (
 R45 (B false) H40))) (
 C.aBin (Try.prog.underlying 27) .eql (l39.getD 4 .junk).nod.nod (I 0) fun (v53 : V) =>
 Jv (fun (v54 : V) (H55 : Hp) =>
 Jv (fun (v61 : V) (H62 : Hp) =>
 Jv (fun (v66 : V) (H67 : Hp) =>
 R [v66] H67)
 (fun (R68 : V → Hp → Prop) =>
 aG v61.nod true (
 C.callE 17 [] H62 fun (v69 : V) (H70 : Hp) =>
 R68 v69.nod H70) (
 R68 (B false) H62)))
 (fun (R63 : V → Hp → Prop) =>
 aG v54.nod true (
 C.callE 35 [(l39.getD 3 .junk).nod.nod] H55 fun (v64 : V) (H65 : Hp) =>
 R63 v64.nod H65) (
 R63 (B false) H55)))
 (fun (R56 : V → Hp → Prop) =>
 aG v53.nod true (
 C.callE 36 [(l39.getD 0 .junk).nod.nod, (l39.getD 1 .junk).nod.nod, (l39.getD 2 .junk).nod.nod] H40 fun (v57 : V) (H58 : Hp) =>
 C.callE 21 [(l39.getD 3 .junk).nod.nod, v57.nod] H58 fun (v59 : V) (H60 : Hp) =>
 R56 v59.nod H60) (
 R56 (B false) H40))))
 (fun (R41 : List V → Hp → Prop) =>
 C.aBin (Try.prog.underlying 3) .gtr (l25.getD 2 .junk).nod.nod (I 100000) fun (v71 : V) =>
 R41 [(l25.getD 0 .junk), (l25.getD 1 .junk), (l25.getD 2 .junk), (l25.getD 3 .junk), (l25.getD 4 .junk), v71] H26)))
 (fun (R27 : List V → Hp → Prop) =>
 C.aBin (Try.prog.underlying 3) .lss (l22.getD 0 .junk).nod.nod (I 0) fun (v72 : V) =>
 Jv (fun (v73 : V) (H74 : Hp) =>
 Jv (fun (v77 : V) (H78 : Hp) =>
 Jv (fun (v81 : V) (H82 : Hp) =>
 Jv (fun (v85 : V) (H86 : Hp) =>
 R27 [(l22.getD 0 .junk), (l22.getD 1 .junk), (l22.getD 2 .junk), (l22.getD 3 .junk), (l22.getD 4 .junk), v85] H86)
 (fun (R87 : V → Hp → Prop) =>
 aG v81.nod false (
 C.aBin (Try.prog.underlying 3) .lss (l22.getD 2 .junk).nod.nod (I 0) fun (v88 : V) =>
 R87 v88.nod H82) (
 R87 (B true) H82)))
 (fun (R83 : V → Hp → Prop) =>
 aG v77.nod false (
 C.aBin (Try.prog.underlying 3) .gtr (l22.getD 1 .junk).nod.nod (I 500) fun (v84 : V) =>
 R83 v84.nod H78) (
 R83 (B true) H78)))
 (fun (R79 : V → Hp → Prop) =>
 aG v73.nod false (
 C.aBin (Try.prog.underlying 3) .lss (l22.getD 1 .junk).nod.nod (I 0) fun (v80 : V) =>
 R79 v80.nod H74) (
 R79 (B true) H74)))
 (fun (R75 : V → Hp → Prop) =>
 aG v72.nod false (
 C.aBin (Try.prog.underlying 3) .gtr (l22.getD 0 .junk).nod.nod (I 4294967295) fun (v76 : V) =>
 R75 v76.nod H23) (
 R75 (B true) H23))))
 (fun (R24 : List V → Hp → Prop) =>
 C.aUn .not (l19.getD 5 .junk).nod.nod fun (v89 : V) =>
 aCond v89.nod (
 Jn (fun (l90 : List V) (H91 : Hp) =>
 aCond (l90.getD 5 .junk).nod (
 R [(B false)] H91) (
 R24 [(l90.getD 0 .junk), (l90.getD 1 .junk), (l90.getD 2 .junk), (l90.getD 3 .junk), (l90.getD 4 .junk)] H91))
 (fun (R92 : List V → Hp → Prop) =>
 C.aBin (Try.prog.underlying 27) .neq (l19.getD 7 .junk).nod.nod (I 2) fun (v93 : V) =>
 Jv (fun (v94 : V) (H95 : Hp) =>
 R92 [(l19.getD 1 .junk), (l19.getD 2 .junk), (l19.getD 3 .junk), (l19.getD 8 .junk), (l19.getD 9 .junk), v94] H95)
 (fun (R96 : V → Hp → Prop) =>
 aG v93.nod false (
 C.aLen (l19.getD 6 .junk).nod.nod fun (v97 : V) =>
 C.aBin (Try.prog.underlying 3) .neq v97.nod (I 0) fun (v98 : V) =>
 R96 v98.nod H20) (
 R96 (B true) H20)))) (
 C.aBin (Try.prog.underlying 3) .gtr (l19.getD 4 .junk).nod.nod (I 100000) fun (v99 : V) =>
 aCond v99.nod (
 Jn (fun (l100 : List V) (H101 : Hp) =>
 aCond (l100.getD 5 .junk).nod (
 R [(B false)] H101) (
 R24 [(l100.getD 0 .junk), (l100.getD 1 .junk), (l100.getD 2 .junk), (l100.getD 3 .junk), (l100.getD 4 .junk)] H101))
 (fun (R102 : List V → Hp → Prop) =>
 C.aBin (Try.prog.underlying 27) .neq (l19.getD 7 .junk).nod.nod (I 4) fun (v103 : V) =>
 Jv (fun (v104 : V) (H105 : Hp) =>
 R102 [(l19.getD 1 .junk), (l19.getD 2 .junk), (l19.getD 3 .junk), (l19.getD 8 .junk), (l19.getD 9 .junk), v104] H105)
 (fun (R106 : V → Hp → Prop) =>
 aG v103.nod false (
 C.aLen (l19.getD 6 .junk).nod.nod fun (v107 : V) =>
 C.aBin (Try.prog.underlying 3) .neq v107.nod (I 0) fun (v108 : V) =>
 R106 v108.nod H20) (
 R106 (B true) H20)))) (
 Jn (fun (l109 : List V) (H110 : Hp) =>
 aCond (l109.getD 5 .junk).nod (
 R [(B false)] H110) (
 R24 [(l109.getD 0 .junk), (l109.getD 1 .junk), (l109.getD 2 .junk), (l109.getD 3 .junk), (l109.getD 4 .junk)] H110))
 (fun (R111 : List V → Hp → Prop) =>
 C.aBin (Try.prog.underlying 27) .neq (l19.getD 7 .junk).nod.nod (I 0) fun (v112 : V) =>
 Jv (fun (v113 : V) (H114 : Hp) =>
 Jv (fun (v121 : V) (H122 : Hp) =>
 R111 [(l19.getD 1 .junk), (l19.getD 2 .junk), (l19.getD 3 .junk), (l19.getD 8 .junk), (l19.getD 9 .junk), v121] H122)
 (fun (R123 : V → Hp → Prop) =>
 aG v113.nod false (
 C.callE 35 [(l19.getD 6 .junk).nod.nod] H114 fun (v124 : V) (H125 : Hp) =>
 C.aUn .not v124.nod fun (v126 : V) =>
 R123 v126.nod H125) (
 R123 (B true) H114)))
 (fun (R115 : V → Hp → Prop) =>
 aG v112.nod false (
 C.callE 34 [(l19.getD 0 .junk).nod.nod] H20 fun (v116 : V) (H117 : Hp) =>
 C.callE 21 [(l19.getD 6 .junk).nod.nod, v116.nod] H117 fun (v118 : V) (H119 : Hp) =>
 C.aUn .not v118.nod fun (v120 : V) =>
 R115 v120.nod H119) (
 R115 (B true) H20)))))))
 (fun (R21 : List V → Hp → Prop) =>
 C.callE 33 [(l10.getD 1 .junk).nod.nod, (l10.getD 2 .junk).nod.nod, (l10.getD 3 .junk).nod.nod] H16 fun (v127 : V) (H128 : Hp) =>
 C.aExt 0 v127.nod.nod fun (v129 : V) =>
 C.aExt 1 v127.nod.nod fun (v130 : V) =>
 R21 [(l10.getD 0 .junk), (l10.getD 1 .junk), (l10.getD 2 .junk), (l10.getD 3 .junk), (l10.getD 4 .junk), (l10.getD 5 .junk), v17, v18, v129, v130] H128)))
 (fun (R12 : List V → Hp → Prop) =>
 C.aBin (Try.prog.underlying 3) .gtr v8.nod.nod (I 3000) fun (v131 : V) =>
 Jv (fun (v132 : V) (H133 : Hp) =>
 R12 [(l1.getD 0 .junk), (l1.getD 1 .junk), (l1.getD 2 .junk), (l1.getD 3 .junk), v8, v9, v132] H133)
 (fun (R134 : V → Hp → Prop) =>
 aG v131.nod true (
 C.aBin (Try.prog.underlying 3) .leq v8.nod.nod (I 100000) fun (v135 : V) =>
 R134 v135.nod H7) (
 R134 (B false) H7)))))
 (fun (R3 : List V → Hp → Prop) =>
 C.aLen a0.nod.nod fun (v136 : V) =>
 C.aBin (Try.prog.underlying 3) .gtr v136.nod (I 10) fun (v137 : V) =>
 Jv (fun (v138 : V) (H139 : Hp) =>
 Jv (fun (v143 : V) (H144 : Hp) =>
 Jv (fun (v148 : V) (H149 : Hp) =>
 R3 [a0, a1, a2, a3, v148] H149)
 (fun (R150 : V → Hp → Prop) =>
 aG v143.nod false (
 C.aBin (Try.prog.underlying 3) .gtr a3.nod.nod (I 500) fun (v151 : V) =>
 aG v151.nod true (
 C.aBin (Try.prog.underlying 3) .leq a3.nod.nod (I 100000) fun (v152 : V) =>
 R150 v152.nod.nod H144) (
 R150 (B false) H144)) (
 UD = UD ∧
 UD = UD ∧
 R150 (B true) H144)))
 (fun (R145 : V → Hp → Prop) =>
 aG v138.nod false (
 C.aLen a0.nod.nod fun (v146 : V) =>
 C.aBin (Try.prog.underlying 3) .gtr v146.nod (I 300) fun (v147 : V) =>
 R145 v147.nod H139) (
 R145 (B true) H139)))
 (fun (R140 : V → Hp → Prop) =>
 aG v137.nod true (
 C.aLen a0.nod.nod fun (v141 : V) =>
 C.aBin (Try.prog.underlying 3) .leq v141.nod (I 200) fun (v142 : V) =>
 R140 v142.nod H) (
 R140 (B false) H)))
theorem wf6 : (Nat.ble 4 Try.f6.ntmps && wfC an6 Try.f6.ntmps (Try.f6.body.getD .skip)) = true := by kernel_rfl
theorem tie6 (C : Cb) (a0 a1 a2 a3 : V) (H : Hp) (R : List V → Hp → Prop) : wpG Try.prog C an6 (Try.f6.body.getD .skip) (argF [a0, a1, a2, a3]) H (retG Try.prog C Try.f6 R) (fun _ _ _ => False) (retG Try.prog C Try.f6 R) = vc6 C a0 a1 a2 a3 H R := by kernel_rfl
theorem mk6 (a0 a1 a2 a3 : V) {H : Hp} {v : V} {H1 : Hp} (hd : v.Nd) (hn : H.length ≤ H1.length) (hb : H1 = H ∨ ∀ (b : Nat) (blk : Blk), H1[b]? = some blk → H[b]? = some blk ∨ BelB H1.length blk) (h : vc6 (real Try.prog) a0 a1 a2 a3 H (retF v H1)) : Ret Try.prog 6 [a0, a1, a2, a3] H v H1 :=
  ret_mk (an := an6) hm Try.call6 Try.func6 rfl wf6 hd hn hb (Eq.mpr (tie6 (real Try.prog) a0 a1 a2 a3 H (retF v H1)) h)
theorem mkE6 (a0 a1 a2 a3 : V) {H : Hp} {Q : V → Hp → Prop} (h : vc6 (real Try.prog) a0 a1 a2 a3 H (retW Q)) : RetE Try.prog 6 [a0, a1, a2, a3] H Q :=
  retE_mk (an := an6) hm Try.call6 Try.func6 rfl wf6 (Eq.mpr (tie6 (real Try.prog) a0 a1 a2 a3 H (retW Q)) h)
theorem mko6 (a0 a1 a2 a3 : V) {H : Hp} {xs : List V} {H1 : Hp} (hn : H.length ≤ H1.length) (hb : H1 = H ∨ ∀ (b : Nat) (blk : Blk), H1[b]? = some blk → H[b]? = some blk ∨ BelB H1.length blk) (h : vc6 (real Try.prog) a0 a1 a2 a3 H (retO xs H1)) : Ret Try.prog 6 [a0, a1, a2, a3] H (.arr xs .own) H1 :=
  ret_mko (an := an6) (t := 8) hm Try.call6 Try.func6 rfl wf6 rfl hn hb (Eq.mpr (tie6 (real Try.prog) a0 a1 a2 a3 H (retO xs H1)) h)
end Go.Proofs.Ytpielcbpfbajlaa


set_option linter.unusedVariables false
set_option linter.unusedSimpArgs false
set_option linter.unnecessarySimpa false
set_option maxRecDepth 20000
set_option maxHeartbeats 2000000
namespace Go.Proofs.Ytpielcbpfbajlaa
open Go Go.Ab Go.Proofs
attribute [local congr] g_bin g_nilS g_nilP g_un g_ext g_bx g_fa g_ld g_st g_ix g_ixA g_slc g_mk g_bs g_bd g_nc g_cv g_len g_lenT g_app g_appB g_cpy g_mm g_call g_callG g_calm g_calmG g_range g_res g_pick g_cond g_loop g_Jv g_eqS g_eqP g_fd g_ixT g_ta g_lkp g_upd g_mkM g_appS g_inv g_callE g_callEG g_invE g_zr
theorem low_iff {l : List Int} : lowB l = true ↔ ∀ x, x ∈ l → -500 ≤ x ∧ x ≤ 500 := by simp [lowB, inB_iff]
theorem low_pers {g : Gl} (h : okG g = true) : ∀ k x, x ∈ pers g k → 0 ≤ x ∧ x ≤ 500
  | 0, x, hx => by simp [pers] at hx
  | k + 1, x, hx => by
    rw [pers, List.mem_append] at hx
    rcases hx with hx | hx
    · first | exact low_pers h k x hx | (obtain ⟨j, -, rfl⟩ := List.mem_map.1 hx; exact pv_bd h j)
    · first | exact low_pers h k x hx | (obtain ⟨j, -, rfl⟩ := List.mem_map.1 hx; exact pv_bd h j)
theorem low_pulses {l : List Gl} (h : l.all okG = true) : lowB (pulsesL l) = true := by
  rw [low_iff]
  induction l with
  | nil => intro x hx; simp [pulsesL] at hx
  | cons g l ih =>
    intro x hx
    rw [List.all_cons, Bool.and_eq_true] at h
    rw [pulsesL, List.mem_append] at hx
    rcases hx with hx | hx
    · have := low_pers h.1 _ x hx; omega
    · exact ih h.2 x hx
theorem low_noise (s h : Int) (n : Nat) (h0 : 0 ≤ h) (h1 : h ≤ 500) : lowB (noiseL s h n) = true := by
  rw [low_iff]
  intro x hx
  obtain ⟨i, -, rfl⟩ := List.mem_map.1 hx
  have := nzV_bd s h i h0 h1
  omega
theorem c6 (l : List Gl) (s h n : Int) (H : Hp) : Ret Try.prog 6 [.arr (l.map gl) .no, I s, I h, I n] H (B true) H := by
  refine mk6 _ _ _ _ rfl (Nat.le_refl _) (.inl rfl) ?_
  simp only [vc6, real]
  repeat (first | (with_reducible first | refine jn_go ?_ | refine ud_go ?_ | refine tr_go ?_ | (refine Hd.go ?_; intro K Q hK hQ; simp only [nod_arr, nd_no, e_lenA, List.length_map, nod_imm, Try.underlying3, e_gtr, e_leq, e_gT, j_and', j_one, e_gF, j_or', nod_nod, true_and, List.getD_cons_succ, List.getD_cons_zero, e_cond]; subst hK hQ) | refine rn_go ?_ | refine rv_go ?_ | refine jv_go ?_) | refine sd ?_)
  by_cases hA : (decide ((10 : Int) < l.length) && decide ((l.length : Int) ≤ 200) || decide ((300 : Int) < l.length) || decide (500 < n) && decide (n ≤ 100000)) = true
  · repeat (first | (with_reducible first | refine jn_go ?_ | refine ud_go ?_ | refine tr_go ?_ | (refine Hd.go ?_; intro K Q hK hQ; simp only [hA, if_true]; subst hK hQ) | refine rn_go ?_ | refine rv_go ?_ | refine jv_go ?_) | refine sd ?_)
    refine call_of (c17 _) ?_
    with_reducible first | refine rv_go ?_ | refine rn_go ?_ | skip
    first | exact end1 (fzI _) | exact end1A (fzI _)
  have hA' := Bool.eq_false_iff.2 hA
  simp only [Bool.or_eq_false_iff, Bool.and_eq_false_iff, decide_eq_false_iff_not] at hA'
  repeat (first | (with_reducible first | refine jn_go ?_ | refine ud_go ?_ | refine tr_go ?_ | (refine Hd.go ?_; intro K Q hK hQ; simp only [hA, Bool.false_eq_true, if_false, List.getD_cons_zero, nod_arr, nd_no]; subst hK hQ) | refine rn_go ?_ | refine rv_go ?_ | refine jv_go ?_) | refine sd ?_)
  refine call_of (c31 l _) ?_
  repeat (first | (with_reducible first | refine jn_go ?_ | refine ud_go ?_ | refine tr_go ?_ | (refine Hd.go ?_; intro K Q hK hQ; simp only [nod_tup, List.map_cons, nod2_imm, List.map_nil, e_x20, e_x21, nod_imm, Try.underlying3, e_gtr, e_leq, e_gT, j_and', j_one, List.getD_cons_zero, List.getD_cons_succ, e_cond]; subst hK hQ) | refine rn_go ?_ | refine rv_go ?_ | refine jv_go ?_) | refine sd ?_)
  by_cases hM : (decide (3000 < strN l) && decide (strN l ≤ 100000)) = true
  · repeat (first | (with_reducible first | refine jn_go ?_ | refine ud_go ?_ | refine tr_go ?_ | (refine Hd.go ?_; intro K Q hK hQ; simp only [hM, if_true]; subst hK hQ) | refine rn_go ?_ | refine rv_go ?_ | refine jv_go ?_) | refine sd ?_)
    refine call_of (c17 _) ?_
    with_reducible first | refine rv_go ?_ | refine rn_go ?_ | skip
    first | exact end1 (fzI _) | exact end1A (fzI _)
  have hM' := Bool.eq_false_iff.2 hM
  simp only [Bool.and_eq_false_iff, decide_eq_false_iff_not] at hM'
  repeat (first | (with_reducible first | refine jn_go ?_ | refine ud_go ?_ | refine tr_go ?_ | (refine Hd.go ?_; intro K Q hK hQ; simp only [hM, Bool.false_eq_true, if_false, List.getD_cons_zero, nod_arr, nd_no]; subst hK hQ) | refine rn_go ?_ | refine rv_go ?_ | refine jv_go ?_) | refine sd ?_)
  refine call_of (c32 l _ (by omega)) ?_
  repeat (first | (with_reducible first | refine jn_go ?_ | refine ud_go ?_ | refine tr_go ?_ | (refine Hd.go ?_; intro K Q hK hQ; simp only [nod_tup, List.map_cons, nod2_ints, nd_no, nod2_imm, List.map_nil, e_x20, e_x21, List.getD_cons_succ, List.getD_cons_zero, nod_imm]; subst hK hQ) | refine rn_go ?_ | refine rv_go ?_ | refine jv_go ?_) | refine sd ?_)
  refine call_of (c33 s h n _) ?_
  repeat (first | (with_reducible first | refine jn_go ?_ | refine ud_go ?_ | refine tr_go ?_ | (refine Hd.go ?_; intro K Q hK hQ; simp only [nod_tup, List.map_cons, nod2_ints, nd_no, nod2_imm, List.map_nil, e_x20, e_x21, List.getD_cons_zero, List.getD_cons_succ, nod_imm, e_not, e_cond, Bool.not_eq_true']; subst hK hQ) | refine rn_go ?_ | refine rv_go ?_ | refine jv_go ?_) | refine sd ?_)
  generalize hR : Rn _ = R24
  have key : R24 [I s, I h, I n, ints (if nzE s h n = 0 then noiseL s h n.toNat else []) .no, I (nzE s h n)] H := by
    rw [← hR]
    clear hR R24
    refine rn_go ?_
    by_cases hz : (inB s 0 4294967295 && inB h 0 500 && decide (0 ≤ n)) = false
    · have hz' : (decide (s < 0) || decide (4294967295 < s) || decide (h < 0) || decide (500 < h) || decide (n < 0)) = true := by
        simp only [Bool.and_eq_false_iff, inB_not, decide_eq_false_iff_not] at hz
        simp only [Bool.or_eq_true, decide_eq_true_eq]; omega
      have e : nzE s h n = 2 := by unfold nzE; rw [if_pos hz]
      rw [e, if_neg (by decide)]
      repeat (first | (with_reducible first | refine jn_go ?_ | refine ud_go ?_ | refine tr_go ?_ | (refine Hd.go ?_; intro K Q hK hQ; simp only [List.getD_cons_zero, nod_imm, Try.underlying3, e_lss, e_gtr, e_gF, j_or', j_one, List.getD_cons_succ, hz', e_cond, if_true, Try.underlying27, e_eql, decide_true, nod_ints, nd_no, e_len, List.length_nil, Int.cast_ofNat_Int, e_gT, cond_true]; subst hK hQ) | refine rn_go ?_ | refine rv_go ?_ | refine jv_go ?_) | refine sd ?_)
      refine call_of (c17 _) ?_
      with_reducible first | refine rv_go ?_ | refine rn_go ?_ | skip
      first | exact end1 (fzI _) | exact end1A (fzI _)
    · have hz' : (decide (s < 0) || decide (4294967295 < s) || decide (h < 0) || decide (500 < h) || decide (n < 0)) = false := by
        have := hz
        simp only [Bool.and_eq_false_iff, inB_not, decide_eq_false_iff_not, not_or] at this
        simp only [Bool.or_eq_false_iff, decide_eq_false_iff_not]; omega
      have hb := hz'
      simp only [Bool.or_eq_false_iff, decide_eq_false_iff_not] at hb
      by_cases hn : 100000 < n
      · have e : nzE s h n = 4 := by unfold nzE; rw [if_neg hz, if_pos hn]
        rw [e, if_neg (by decide)]
        repeat (first | (with_reducible first | refine jn_go ?_ | refine ud_go ?_ | refine tr_go ?_ | (refine Hd.go ?_; intro K Q hK hQ; simp only [List.getD_cons_zero, nod_imm, Try.underlying3, e_lss, e_gtr, e_gF, j_or', j_one, List.getD_cons_succ, hz', e_cond, Bool.false_eq_true, if_false, hn, decide_true, if_true, Try.underlying27, e_eql, nod_ints, nd_no, e_len, List.length_nil, Int.cast_ofNat_Int, e_gT, cond_true]; subst hK hQ) | refine rn_go ?_ | refine rv_go ?_ | refine jv_go ?_) | refine sd ?_)
        refine call_of (c17 _) ?_
        with_reducible first | refine rv_go ?_ | refine rn_go ?_ | skip
        first | exact end1 (fzI _) | exact end1A (fzI _)
      · have e : nzE s h n = 0 := by unfold nzE; rw [if_neg hz, if_neg hn]
        rw [e, if_pos rfl]
        repeat (first | (with_reducible first | refine jn_go ?_ | refine ud_go ?_ | refine tr_go ?_ | (refine Hd.go ?_; intro K Q hK hQ; simp only [List.getD_cons_zero, nod_imm, Try.underlying3, e_lss, e_gtr, e_gF, j_or', j_one, List.getD_cons_succ, hz', e_cond, Bool.false_eq_true, if_false, hn, decide_false, Try.underlying27, e_eql, decide_true, nod_ints, nd_no, e_gT, cond_true]; subst hK hQ) | refine rn_go ?_ | refine rv_go ?_ | refine jv_go ?_) | refine sd ?_)
        refine call_of (c36 s h n _ (by omega) (by omega) (by omega) (by omega)) ?_
        repeat (first | (with_reducible first | refine jn_go ?_ | refine ud_go ?_ | refine tr_go ?_ | (refine Hd.go ?_; intro K Q hK hQ; simp only [nod_ints, nd_no]; subst hK hQ) | refine rn_go ?_ | refine rv_go ?_ | refine jv_go ?_) | refine sd ?_)
        refine call_of (c21 _ _ .no .no _ (by simp [noiseL]; omega) (by intro h; cases h) (by intro h; cases h)) ?_
        repeat (first | (with_reducible first | refine jn_go ?_ | refine ud_go ?_ | refine tr_go ?_ | (refine Hd.go ?_; intro K Q hK hQ; simp only [decide_true, nod_imm, List.getD_cons_succ, List.getD_cons_zero, nod_ints, nd_no, e_gT, cond_true]; subst hK hQ) | refine rn_go ?_ | refine rv_go ?_ | refine jv_go ?_) | refine sd ?_)
        refine call_of (c35 _ _ (by simp [noiseL]; omega)) ?_
        rw [low_noise s h _ (by omega) (by omega)]
        repeat (first | (with_reducible first | refine jn_go ?_ | refine ud_go ?_ | refine tr_go ?_ | (refine Hd.go ?_; intro K Q hK hQ; simp only [nod_imm, e_gT, cond_true]; subst hK hQ) | refine rn_go ?_ | refine rv_go ?_ | refine jv_go ?_) | refine sd ?_)
        refine call_of (c17 _) ?_
        with_reducible first | refine rv_go ?_ | refine rn_go ?_ | skip
        first | exact end1 (fzI _) | exact end1A (fzI _)
  by_cases hb : strB l = false
  · have e : plE l = 2 := by
      simp only [strB, Bool.and_eq_false_iff, decide_eq_false_iff_not] at hb
      unfold plE
      rcases hb with hb | hb
      · split
        · rfl
        · rw [if_pos (by omega)]
      · rw [if_pos hb]
    rw [e, if_neg (show ¬ (2 : Int) = 0 by decide)]
    repeat (first | (with_reducible first | refine jn_go ?_ | refine ud_go ?_ | refine tr_go ?_ | (refine Hd.go ?_; intro K Q hK hQ; simp only [hb, if_true, List.getD_cons_succ, List.getD_cons_zero, nod_imm, Try.underlying27, e_neq, decide_true, Bool.not_true, nod_ints, nd_no, Try.underlying3, e_len, List.length_nil, Int.cast_ofNat_Int, e_gF, cond_false, j_one, e_cond, Bool.false_eq_true, if_false]; subst hK hQ) | refine rn_go ?_ | refine rv_go ?_ | refine jv_go ?_) | refine sd ?_)
    exact key
  · have hb2 : strB l = true := by simpa using hb
    have hc := hb2
    simp only [strB, Bool.and_eq_true, decide_eq_true_eq] at hc
    have eN : strN l = cnt l := by unfold strN; rw [if_neg (by omega), if_pos hc.2]
    by_cases hn : 100000 < cnt l
    · have e : plE l = 4 := by unfold plE; rw [if_neg (by simp [hc.2]), if_neg (by omega), if_pos hn]
      rw [e, if_neg (show ¬ (4 : Int) = 0 by decide), eN]
      repeat (first | (with_reducible first | refine jn_go ?_ | refine ud_go ?_ | refine tr_go ?_ | (refine Hd.go ?_; intro K Q hK hQ; simp only [hb2, Bool.true_eq_false, if_false, List.getD_cons_succ, List.getD_cons_zero, nod_imm, Try.underlying3, e_gtr, hn, decide_true, e_cond, if_true, Try.underlying27, e_neq, Bool.not_true, nod_ints, nd_no, e_len, List.length_nil, Int.cast_ofNat_Int, e_gF, cond_false, j_one, Bool.false_eq_true]; subst hK hQ) | refine rn_go ?_ | refine rv_go ?_ | refine jv_go ?_) | refine sd ?_)
      exact key
    · have e : plE l = 0 := by unfold plE; rw [if_neg (by simp [hc.2]), if_neg (by omega), if_neg hn]
      rw [e, if_pos rfl, eN]
      repeat (first | (with_reducible first | refine jn_go ?_ | refine ud_go ?_ | refine tr_go ?_ | (refine Hd.go ?_; intro K Q hK hQ; simp only [hb2, Bool.true_eq_false, if_false, List.getD_cons_succ, List.getD_cons_zero, nod_imm, Try.underlying3, e_gtr, hn, decide_false, e_cond, Bool.false_eq_true, Try.underlying27, e_neq, decide_true, Bool.not_true, nod_arr, nd_no, nod_ints, e_gF, cond_false]; subst hK hQ) | refine rn_go ?_ | refine rv_go ?_ | refine jv_go ?_) | refine sd ?_)
      refine call_of (c34 l _ hc.2 (by omega) hc.1) ?_
      repeat (first | (with_reducible first | refine jn_go ?_ | refine ud_go ?_ | refine tr_go ?_ | (refine Hd.go ?_; intro K Q hK hQ; simp only [nod_ints, nd_no]; subst hK hQ) | refine rn_go ?_ | refine rv_go ?_ | refine jv_go ?_) | refine sd ?_)
      have hlen := pulsesL_len l hc.2
      refine call_of (c21 _ _ .no .no _ (by omega) (by intro h; cases h) (by intro h; cases h)) ?_
      repeat (first | (with_reducible first | refine jn_go ?_ | refine ud_go ?_ | refine tr_go ?_ | (refine Hd.go ?_; intro K Q hK hQ; simp only [decide_true, nod_imm, e_not, Bool.not_true, List.getD_cons_succ, List.getD_cons_zero, nod_ints, nd_no, e_gF, cond_false]; subst hK hQ) | refine rn_go ?_ | refine rv_go ?_ | refine jv_go ?_) | refine sd ?_)
      refine call_of (c35 _ _ (by omega)) ?_
      rw [low_pulses hc.2]
      repeat (first | (with_reducible first | refine jn_go ?_ | refine ud_go ?_ | refine tr_go ?_ | (refine Hd.go ?_; intro K Q hK hQ; simp only [nod_imm, e_not, Bool.not_true, List.getD_cons_succ, List.getD_cons_zero, e_cond, Bool.false_eq_true, if_false]; subst hK hQ) | refine rn_go ?_ | refine rv_go ?_ | refine jv_go ?_) | refine sd ?_)
      exact key
end Go.Proofs.Ytpielcbpfbajlaa


set_option linter.unusedVariables false
set_option linter.unusedSimpArgs false
set_option linter.unnecessarySimpa false
set_option maxRecDepth 20000
set_option maxHeartbeats 2000000
namespace Go.Proofs.Ytpielcbpfbajlaa
open Go Go.Ab Go.Proofs
attribute [local congr] g_bin g_nilS g_nilP g_un g_ext g_bx g_fa g_ld g_st g_ix g_ixA g_slc g_mk g_bs g_bd g_nc g_cv g_len g_lenT g_app g_appB g_cpy g_mm g_call g_callG g_calm g_calmG g_range g_res g_pick g_cond g_loop g_Jv g_eqS g_eqP g_fd g_ixT g_ta g_lkp g_upd g_mkM g_appS g_inv g_callE g_callEG g_invE g_zr
open Go.ChangeShapes Go.WideShapes Go.ChangeAt Go.RowKit
theorem own : ownKnob Try.prog.godebug = none := by kernel_rfl
theorem laidOut : laidOutB Try.prog = true := by kernel_rfl
set_option maxRecDepth 100000 in
theorem lifted (os : Os) (started : os.Started) (H : Type) (enc : TypeId × Value → H) :
    ReturnsInHanded {} Try.checked os 6 .any (Rows.tractSourcesSpec.pre6 enc Try.prog Try.f6 Rows.tractSourcesRow.domain false) (Rows.tractSourcesSpec.post enc Try.prog Try.f6 false true false false) := by
  refine returnsInHanded_of_change (C := Try.checked) own started (by kernel_rfl) Try.func6
    (ChangeSpec.witness6 (enc := enc) (C := Try.checked) false ⟨#[], #[.slice none 0 0, .int .i64 0, .int .i64 0, .int .i64 0], []⟩ 8 (by kernel_rfl) (by kernel_rfl) (by kernel_rfl) (by kernel_rfl)) ?_
  intro W base args ds gs before hval0 hW hcnd _
  have hval : ∀ (j : Nat) t v, Try.f6.params[j]? = some t → args[j]? = some v → Value.okWide Try.prog W .any base t v := hval0
  have hW' := hW
  obtain ⟨p, q, hA0, hV, rfl, hfz, hnd⟩ := hW
  have hA : DataW.TrodAll enc Try.prog W 0 (fun _ => true) true Try.f6.params.toList args.toList ds p := hA0
  rw [Try.params6] at hA hval
  obtain ⟨v0, vs0, d0, ds0, p0, q0, hargs, rfl, rfl, h0, r0⟩ := trodAll_cons hA
  obtain ⟨v1, vs1, d1, ds1, p1, q1, rfl, rfl, rfl, h1, r1⟩ := trodAll_cons r0
  obtain ⟨v2, vs2, d2, ds2, p2, q2, rfl, rfl, rfl, h2, r2⟩ := trodAll_cons r1
  obtain ⟨v3, vs3, d3, ds3, p3, q3, rfl, rfl, rfl, h3, r3⟩ := trodAll_cons r2
  obtain ⟨rfl, rfl, rfl⟩ := trodAll_nil r3
  obtain rfl : args = #[v0, v1, v2, v3] := by cases args; simp_all
  obtain ⟨rfl, rfl⟩ := trodVars_none hV
  have lt0 : ∀ x ∈ p0, x.block < W.heap.size := by obtain ⟨m, hm⟩ := h0; exact DataW.trod_lt m _ _ _ hm
  obtain ⟨l0, e0⟩ := in_val Try.underlying60 opens60 (hval 0 _ v0 rfl rfl) h0
  have lt1 : ∀ x ∈ p1, x.block < W.heap.size := by obtain ⟨m, hm⟩ := h1; exact DataW.trod_lt m _ _ _ hm
  obtain ⟨n1, e1, w1⟩ := in_int Try.underlying3 (hval 1 _ v1 rfl rfl) h1
  have lt2 : ∀ x ∈ p2, x.block < W.heap.size := by obtain ⟨m, hm⟩ := h2; exact DataW.trod_lt m _ _ _ hm
  obtain ⟨n2, e2, w2⟩ := in_int Try.underlying3 (hval 2 _ v2 rfl rfl) h2
  have lt3 : ∀ x ∈ p3, x.block < W.heap.size := by obtain ⟨m, hm⟩ := h3; exact DataW.trod_lt m _ _ _ hm
  obtain ⟨n3, e3, w3⟩ := in_int Try.underlying3 (hval 3 _ v3 rfl rfl) h3
  clear hA0 hval0
  refine (bridge (args := [.arr (l0.map gl) .no, I n1, I n2, I n3]) (ra := #[v0, v1, v2, v3]) (c6 l0 n1 n2 n3  []) rfl (by intro a ha; simp at ha; rcases ha with rfl | rfl | rfl | rfl <;> rfl) (fun i => ?_)).mono fun e W' ⟨he, bel⟩ => ?_
  · match i with
    | 0 => exact e0
    | 1 => exact e1
    | 2 => exact e2
    | 3 => exact e3
    | i + 4 => exact .junk _
  · subst he
    exact ⟨_, rfl, _, _, _, [], _, [], hW', trodAll_mk1 (shut_bool Try.underlying4 _), (trodAll_cons_mk (Below.trod laidOut (by kernel_rfl) (of_decide_eq_true (by kernel_rfl)) h0 bel lt0) (trodAll_cons_mk (Below.trod laidOut (by kernel_rfl) (of_decide_eq_true (by kernel_rfl)) h1 bel lt1) (trodAll_cons_mk (Below.trod laidOut (by kernel_rfl) (of_decide_eq_true (by kernel_rfl)) h2 bel lt2) (trodAll_cons_mk (Below.trod laidOut (by kernel_rfl) (of_decide_eq_true (by kernel_rfl)) h3 bel lt3) trodAll_mk0)))), rfl, bel.frame _, fun h => by cases h⟩
theorem over : Rows.tractSourcesRow.holds Try.pinned (OpenSpec.ofChange Rows.tractSourcesSpec) :=
  OpenClaim.holds_of_wide 6 Try.f6 rfl rfl rfl rfl rfl rfl rfl ⟨rfl, rfl, rfl, rfl, rfl⟩ rfl rfl rfl rfl rfl (by kernel_rfl) Try.func6 (by kernel_rfl)
    (of_decide_eq_true (by kernel_rfl)) (by unfold Func.isWrapper; first | (rw [if_pos (by decide +kernel)]; kernel_rfl) | (rw [if_neg (by decide +kernel)]; exact ⟨rfl, rfl⟩))
    (fun os started H enc _ => lifted os started H enc)
theorem tractSources_holds : Rows.TractSourcesSaid := over
#print axioms tractSources_holds
end Go.Proofs.Ytpielcbpfbajlaa

