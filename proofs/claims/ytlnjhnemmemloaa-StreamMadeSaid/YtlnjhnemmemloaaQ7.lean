/- If no piece is late, what is heard is the same as if all pieces had been made before: true for every input. -/
import Derived.Test.YtlnjhnemmemloaaP6
import Derived.Test.YtlnjhnemmemloaaProg
import Derived.Test.YtlnjhnemmemloaaRows
set_option linter.unusedVariables false
set_option maxRecDepth 20000
set_option maxHeartbeats 4000000
namespace Go.Proofs.Ytlnjhnemmemloaa
open Go Go.Ab Go.Proofs
def an7 : An := { imm := [9, 11, 79, 86, 116], jn := [(2, [0, 1, 2, 3, 42]), (5, [1, 2, 3, 9, 10, 11, 12]), (6, [1, 2, 3, 9, 11, 59]), (9, [1, 2, 3, 9, 11, 13]), (12, [1, 2, 3, 9, 11, 13]), (20, [2, 3, 9, 11, 14, 108]), (23, [2, 3, 9, 11, 14, 15, 16, 17]), (25, [2, 3, 9, 11, 14, 15, 16, 18, 19, 138]), (28, [2, 3, 9, 11, 14, 15, 16, 18, 19, 21]), (32, [2, 3, 9, 11, 14, 161])], lp := [(8, [1, 2, 3, 9, 11, 13]), (17, [2, 3, 9, 11, 14]), (27, [2, 3, 9, 11, 14, 15, 16, 18, 19, 21])], loud := [79, 86, 116], ord := [] }
def vc7 (C : Cb) (a0 a1 a2 a3 : V) (H : Hp) (R : List V → Hp → Prop) : Prop :=
 Jn (fun l1 H2 =>
 aCond (l1.getD 4 .junk).nod (
 C.callE 15 [] H2 fun v4 H5 =>
 R [v4] H5) (
 C.callE 21 [(l1.getD 0 .junk).nod.nod] H2 fun v6 H7 =>
 C.aExt 0 v6.nod.nod fun v8 =>
 C.aExt 1 v6.nod.nod fun v9 =>
 C.aBx true 3 v8.nod H7 fun v10 H11 =>
 Jn (fun l12 H13 =>
 Jn (fun l15 H16 =>
 aCond (l15.getD 5 .junk).nod (
 R [(B false)] H16) (
 LoopA (fun l18 H19 K20 =>
 C.aLen (l18.getD 0 .junk).nod.nod fun v21 =>
 C.aBin (Try.prog.underlying 3) .lss (l18.getD 5 .junk).nod.nod v21.nod fun v22 =>
 aCond v22.nod (
 Jn (fun l23 H24 =>
 C.aBin (Try.prog.underlying 3) .add (l23.getD 5 .junk).nod.nod (I 1) fun v26 =>
 K20 [(l23.getD 0 .junk), (l23.getD 1 .junk), (l23.getD 2 .junk), (l23.getD 3 .junk), (l23.getD 4 .junk), v26] H24)
 (fun R25 =>
 Jn (fun l27 H28 =>
 C.aFA 1 1 false (l27.getD 3 .junk).nod fun v30 =>
 C.aLd 1 false false v30.nod H28 fun v31 H32 =>
 C.aIx 6 (l27.getD 0 .junk).nod.nod (l27.getD 5 .junk).nod.nod fun v33 =>
 C.aLd 6 true false v33.nod H32 fun v34 H35 =>
 C.callE 22 [v31.nod, v34.nod] H35 fun v36 H37 =>
 C.aFA 1 1 false (l27.getD 4 .junk).nod fun v38 =>
 C.aLd 1 false false v38.nod H37 fun v39 H40 =>
 C.aIx 6 (l27.getD 0 .junk).nod.nod (l27.getD 5 .junk).nod.nod fun v41 =>
 C.aLd 6 true false v41.nod H40 fun v42 H43 =>
 C.callE 22 [v39.nod, v42.nod] H43 fun v44 H45 =>
 R25 [(l27.getD 0 .junk), (l27.getD 1 .junk), (l27.getD 2 .junk), (l27.getD 3 .junk), (l27.getD 4 .junk), (l27.getD 5 .junk)] H45)
 (fun R29 =>
 C.aIx 6 (l18.getD 0 .junk).nod.nod (l18.getD 5 .junk).nod.nod fun v46 =>
 C.aLd 6 true false v46.nod H19 fun v47 H48 =>
 C.callE 14 [v47.nod] H48 fun v49 H50 =>
 C.aUn .not v49.nod fun v51 =>
 aCond v51.nod (
 C.callE 15 [] H50 fun v52 H53 =>
 R [v52] H53) (
 R29 [(l18.getD 0 .junk), (l18.getD 1 .junk), (l18.getD 2 .junk), (l18.getD 3 .junk), (l18.getD 4 .junk), (l18.getD 5 .junk)] H50)))) (
 C.aFA 1 1 false (l18.getD 4 .junk).nod fun v54 =>
 C.aLd 1 false false v54.nod H19 fun v55 H56 =>
 C.callE 31 [v55.nod, (I 1099511627776)] H56 fun v57 H58 =>
 C.aBin (Try.prog.underlying 30) .neq v57.nod (I 0) fun v59 =>
 aCond v59.nod (
 R [(B false)] H58) (
 LoopA (fun l60 H61 K62 =>
 C.aLen (l60.getD 0 .junk).nod.nod fun v63 =>
 C.aBin (Try.prog.underlying 3) .lss (l60.getD 4 .junk).nod.nod v63.nod fun v64 =>
 aCond v64.nod (
 Jn (fun l65 H66 =>
 aCond (l65.getD 5 .junk).nod (
 C.callE 15 [] H66 fun v68 H69 =>
 R [v68] H69) (
 C.aFA 1 1 false (l65.getD 2 .junk).nod fun v70 =>
 C.aLd 1 false false v70.nod H66 fun v71 H72 =>
 C.aIx 1 (l65.getD 0 .junk).nod.nod (l65.getD 4 .junk).nod.nod fun v73 =>
 C.aLd 1 false false v73.nod H72 fun v74 H75 =>
 C.callE 31 [v71.nod, v74.nod] H75 fun v76 H77 =>
 Jn (fun l78 H79 =>
 C.aFA 1 1 false (l78.getD 3 .junk).nod fun v81 =>
 C.aLd 1 false false v81.nod H79 fun v82 H83 =>
 C.callE 23 [v82.nod, (l78.getD 1 .junk).nod.nod] H83 fun v84 H85 =>
 C.aExt 0 v84.nod.nod fun v86 =>
 C.aExt 1 v84.nod.nod fun v87 =>
 C.aExt 2 v84.nod.nod fun v88 =>
 Jn (fun l89 H90 =>
 aCond (l89.getD 9 .junk).nod (
 R [(B false)] H90) (
 LoopA (fun l92 H93 K94 =>
 C.aLen (l92.getD 6 .junk).nod.nod fun v95 =>
 C.aBin (Try.prog.underlying 3) .lss (l92.getD 9 .junk).nod.nod v95.nod fun v96 =>
 aCond v96.nod (
 Jn (fun l97 H98 =>
 C.aBin (Try.prog.underlying 3) .add (l97.getD 9 .junk).nod.nod (I 1) fun v100 =>
 K94 [(l97.getD 0 .junk), (l97.getD 1 .junk), (l97.getD 2 .junk), (l97.getD 3 .junk), (l97.getD 4 .junk), (l97.getD 5 .junk), (l97.getD 6 .junk), (l97.getD 7 .junk), (l97.getD 8 .junk), v100] H98)
 (fun R99 =>
 C.aIx 4 (l92.getD 6 .junk).nod.nod (l92.getD 9 .junk).nod.nod fun v101 =>
 C.aFA 0 1 false v101.nod fun v102 =>
 C.aLd 1 false false v102.nod H93 fun v103 H104 =>
 C.aBin (Try.prog.underlying 57) .eql v103.nod (I 6) fun v105 =>
 aCond v105.nod (
 C.callE 15 [] H104 fun v106 H107 =>
 R [v106] H107) (
 R99 [(l92.getD 0 .junk), (l92.getD 1 .junk), (l92.getD 2 .junk), (l92.getD 3 .junk), (l92.getD 4 .junk), (l92.getD 5 .junk), (l92.getD 6 .junk), (l92.getD 7 .junk), (l92.getD 8 .junk), (l92.getD 9 .junk)] H104))) (
 Jn (fun l108 H109 =>
 aCond (l108.getD 5 .junk).nod (
 R [(B false)] H109) (
 C.aBin (Try.prog.underlying 3) .add (l108.getD 4 .junk).nod.nod (I 1) fun v111 =>
 K62 [(l108.getD 0 .junk), (l108.getD 1 .junk), (l108.getD 2 .junk), (l108.getD 3 .junk), v111] H109))
 (fun R110 =>
 C.callE 24 [(l92.getD 5 .junk).nod.nod, (l92.getD 7 .junk).nod.nod] H93 fun v112 H113 =>
 C.aUn .not v112.nod fun v114 =>
 Jv (fun v115 H116 =>
 R110 [(l92.getD 0 .junk), (l92.getD 1 .junk), (l92.getD 2 .junk), (l92.getD 3 .junk), (l92.getD 4 .junk), v115] H116)
 (fun R117 =>
 aG v114.nod false (
 C.callE 32 [(l92.getD 6 .junk).nod.nod, (l92.getD 8 .junk).nod.nod] H113 fun v118 H119 =>
 C.aUn .not v118.nod fun v120 =>
 R117 v120.nod H119) (
 R117 (B true) H113)))))
 [(l89.getD 0 .junk), (l89.getD 1 .junk), (l89.getD 2 .junk), (l89.getD 3 .junk), (l89.getD 4 .junk), (l89.getD 5 .junk), (l89.getD 6 .junk), (l89.getD 7 .junk), (l89.getD 8 .junk), (I 0)] H90))
 (fun R91 =>
 C.aBin (Try.prog.underlying 30) .neq (l78.getD 7 .junk).nod.nod (I 0) fun v121 =>
 Jv (fun v122 H123 =>
 R91 [(l78.getD 0 .junk), (l78.getD 1 .junk), (l78.getD 2 .junk), (l78.getD 3 .junk), (l78.getD 4 .junk), (l78.getD 5 .junk), (l78.getD 6 .junk), v86, v87, v122] H123)
 (fun R124 =>
 aG v121.nod false (
 C.aBin (Try.prog.underlying 30) .neq v88.nod.nod (I 0) fun v125 =>
 R124 v125.nod H85) (
 R124 (B true) H85))))
 (fun R80 =>
 C.aFA 1 1 false (l65.getD 2 .junk).nod fun v126 =>
 C.aLd 1 false false v126.nod H77 fun v127 H128 =>
 C.callE 23 [v127.nod, (l65.getD 1 .junk).nod.nod] H128 fun v129 H130 =>
 C.aExt 0 v129.nod.nod fun v131 =>
 C.aExt 1 v129.nod.nod fun v132 =>
 C.aExt 2 v129.nod.nod fun v133 =>
 R80 [(l65.getD 0 .junk), (l65.getD 1 .junk), (l65.getD 2 .junk), (l65.getD 3 .junk), (l65.getD 4 .junk), v131, v132, v133] H130)))
 (fun R67 =>
 C.aIx 1 (l60.getD 0 .junk).nod.nod (l60.getD 4 .junk).nod.nod fun v134 =>
 C.aLd 1 false false v134.nod H61 fun v135 H136 =>
 C.aBin (Try.prog.underlying 3) .lss v135.nod (I 0) fun v137 =>
 Jv (fun v138 H139 =>
 R67 [(l60.getD 0 .junk), (l60.getD 1 .junk), (l60.getD 2 .junk), (l60.getD 3 .junk), (l60.getD 4 .junk), v138] H139)
 (fun R140 =>
 aG v137.nod false (
 C.aIx 1 (l60.getD 0 .junk).nod.nod (l60.getD 4 .junk).nod.nod fun v141 =>
 C.aLd 1 false false v141.nod H136 fun v142 H143 =>
 C.aBin (Try.prog.underlying 3) .gtr v142.nod (I 1099511627776) fun v144 =>
 R140 v144.nod H143) (
 R140 (B true) H136)))) (
 C.callE 15 [] H61 fun v145 H146 =>
 R [v145] H146))
 [(l18.getD 1 .junk), (l18.getD 2 .junk), (l18.getD 3 .junk), (l18.getD 4 .junk), (I 0)] H58)))
 [(l15.getD 0 .junk), (l15.getD 1 .junk), (l15.getD 2 .junk), (l15.getD 3 .junk), (l15.getD 4 .junk), (I 0)] H16))
 (fun R17 =>
 C.aUn .not (l12.getD 4 .junk).nod.nod fun v147 =>
 Jv (fun v148 H149 =>
 R17 [(l12.getD 0 .junk), (l12.getD 1 .junk), (l12.getD 2 .junk), (l12.getD 3 .junk), (l12.getD 5 .junk), v148] H149)
 (fun R150 =>
 aG v147.nod false (
 C.aUn .not (l12.getD 6 .junk).nod.nod fun v151 =>
 R150 v151.nod H13) (
 R150 (B true) H13))))
 (fun R14 =>
 C.callE 21 [(l1.getD 0 .junk).nod.nod] H11 fun v152 H153 =>
 C.aExt 0 v152.nod.nod fun v154 =>
 C.aExt 1 v152.nod.nod fun v155 =>
 C.aBx true 3 v154.nod H153 fun v156 H157 =>
 R14 [(l1.getD 1 .junk), (l1.getD 2 .junk), (l1.getD 3 .junk), v10, v9, v156, v155] H157)))
 (fun R3 =>
 C.aLen a0.nod.nod fun v158 =>
 C.aBin (Try.prog.underlying 3) .gtr v158.nod (I 8) fun v159 =>
 Jv (fun v160 H161 =>
 Jv (fun v165 H166 =>
 Jv (fun v170 H171 =>
 Jv (fun v174 H175 =>
 R3 [a0, a1, a2, a3, v174] H175)
 (fun R176 =>
 aG v170.nod false (
 C.aBin (Try.prog.underlying 3) .gtr a3.nod.nod (I 100) fun v177 =>
 R176 v177.nod H171) (
 R176 (B true) H171)))
 (fun R172 =>
 aG v165.nod false (
 C.aBin (Try.prog.underlying 3) .lss a3.nod.nod (I 1) fun v173 =>
 R172 v173.nod H166) (
 R172 (B true) H166)))
 (fun R167 =>
 aG v160.nod false (
 C.aLen a2.nod.nod fun v168 =>
 C.aBin (Try.prog.underlying 3) .gtr v168.nod (I 20) fun v169 =>
 R167 v169.nod H161) (
 R167 (B true) H161)))
 (fun R162 =>
 aG v159.nod false (
 C.aLen a1.nod.nod fun v163 =>
 C.aBin (Try.prog.underlying 3) .gtr v163.nod (I 12) fun v164 =>
 R162 v164.nod H) (
 R162 (B true) H)))
theorem wf7 : (Nat.ble 4 Try.f7.ntmps && wfC an7 Try.f7.ntmps (Try.f7.body.getD .skip)) = true := by kernel_rfl
theorem tie7 (C : Cb) (a0 a1 a2 a3 : V) (H : Hp) (R : List V → Hp → Prop) : wpG Try.prog C an7 (Try.f7.body.getD .skip) (argF [a0, a1, a2, a3]) H (retG Try.prog C Try.f7 R) (fun _ _ _ => False) (retG Try.prog C Try.f7 R) = vc7 C a0 a1 a2 a3 H R := by kernel_rfl
theorem mk7 (a0 a1 a2 a3 : V) {H : Hp} {v : V} {H1 : Hp} (hd : v.Nd) (hn : H.length ≤ H1.length) (hb : H1 = H ∨ ∀ (b : Nat) (blk : Blk), H1[b]? = some blk → H[b]? = some blk ∨ BelB H1.length blk) (h : vc7 (real Try.prog) a0 a1 a2 a3 H (retF v H1)) : Ret Try.prog 7 [a0, a1, a2, a3] H v H1 :=
 ret_mk (an := an7) hm Try.call7 Try.func7 rfl wf7 hd hn hb (Eq.mpr (tie7 (real Try.prog) a0 a1 a2 a3 H (retF v H1)) h)
theorem mkE7 (a0 a1 a2 a3 : V) {H : Hp} {Q : V → Hp → Prop} (h : vc7 (real Try.prog) a0 a1 a2 a3 H (retW Q)) : RetE Try.prog 7 [a0, a1, a2, a3] H Q :=
 retE_mk (an := an7) hm Try.call7 Try.func7 rfl wf7 (Eq.mpr (tie7 (real Try.prog) a0 a1 a2 a3 H (retW Q)) h)
theorem mko7 (a0 a1 a2 a3 : V) {H : Hp} {xs : List V} {H1 : Hp} (hn : H.length ≤ H1.length) (hb : H1 = H ∨ ∀ (b : Nat) (blk : Blk), H1[b]? = some blk → H[b]? = some blk ∨ BelB H1.length blk) (h : vc7 (real Try.prog) a0 a1 a2 a3 H (retO xs H1)) : Ret Try.prog 7 [a0, a1, a2, a3] H (.arr xs .own) H1 :=
 ret_mko (an := an7) (t := 8) hm Try.call7 Try.func7 rfl wf7 rfl hn hb (Eq.mpr (tie7 (real Try.prog) a0 a1 a2 a3 H (retO xs H1)) h)
end Go.Proofs.Ytlnjhnemmemloaa
set_option linter.unusedSimpArgs false
set_option linter.unnecessarySimpa false
set_option maxHeartbeats 2000000
namespace Go.Proofs.Ytlnjhnemmemloaa
open Go Go.Ab Go.Proofs
attribute [local congr] g_bin g_nilS g_nilP g_un g_ext g_bx g_fa g_ld g_st g_ix g_ixA g_slc g_mk g_bs g_bd g_nc g_cv g_len g_lenT g_app g_appB g_cpy g_mm g_call g_callG g_calm g_calmG g_range g_res g_pick g_cond g_loop g_Jv g_eqS g_eqP g_fd g_ixT g_ta g_lkp g_upd g_mkM g_appS g_inv g_callE g_callEG g_invE g_zr g_wr
theorem ix_sp (l : List Spc) (f : Fl) (i : Int) {K : V → Prop} : aIx 6 (.arr (l.map spV) f) (I i) K = (0 ≤ i ∧ i < l.length ∧ K (.cptr (spV (l.getD i.toNat default)))) := e_ixE spV default (fun _ => rfl) l f i
structure Fil (m : Mo) (n : Nat) : Prop where
 ok : Mok m
 st : m.st = 0
 la : m.late = false
 ck : m.ck = 0
 ql : m.q.length ≤ n
 n0 : 0 ≤ m.nx
 n1 : m.nx ≤ n
theorem Fil.ins {m : Mo} {n : Nat} (h : Fil m n) (hn : n < 200) {p : Spc} (hp : okSp p = true) : Fil (mIns m.q.length p m) (n + 1) := by
 have := h.ql
 have := h.n0
 have := h.n1
 exact ⟨h.ok.ins _ hp (by omega), h.st, h.la, h.ck, by show (m.q.take m.q.length ++ _ :: m.q.drop m.q.length).length ≤ _; simp; omega, by show 0 ≤ m.nx + 1; omega, by show m.nx + 1 ≤ _; omega⟩
theorem Fil.mono {m : Mo} {n k : Nat} (h : Fil m n) (hk : n ≤ k) : Fil m k := ⟨h.ok, h.st, h.la, h.ck, Nat.le_trans h.ql hk, h.n0, by have := h.n1; omega⟩
theorem c7 (gr : List Gn) (l : List Spc) (ef : List Int) (po : Int) (H : Hp) (w0 : gr.length ≤ 9223372036854775807) (w1 : l.length ≤ 9223372036854775807 ∧ ∀ p, p ∈ l → Sm p) (w2 : ef.length ≤ 9223372036854775807) : Ret Try.prog 7 [.arr (gr.map gnV) .no, .arr (l.map spV) .no, ints ef .no, I po] H (B true) H := by
 refine mk7 _ _ _ _ rfl (Nat.le_refl _) (.inl rfl) ?_
 simp only [vc7, real]
 repeat (first | (with_reducible first | refine Ju.go ?_ | (refine Hd.go ?_; intro K Q hK hQ; simp only [nod_arr, nd_no, e_lenA, List.length_map, nod_imm, Try.underlying3, e_gtr, e_gF, j_or', j_one, nod_ints, e_len, e_lss, List.getD_cons_succ, List.getD_cons_zero, e_cond]; subst hK hQ) | refine Jr.go ?_) | refine sd ?_)
 by_cases hb : 8 < gr.length ∨ 12 < l.length ∨ 20 < ef.length ∨ po < 1 ∨ 100 < po
 ·have n1 : (decide ((8 : Int) < gr.length) || decide ((12 : Int) < l.length) || decide ((20 : Int) < ef.length) || decide (po < 1) || decide ((100 : Int) < po)) = true := by
   simp only [Bool.or_eq_true, decide_eq_true_eq]; omega
  repeat (first | (with_reducible first | refine Ju.go ?_ | (refine Hd.go ?_; intro K Q hK hQ; simp only [n1, if_true]; subst hK hQ) | refine Jr.go ?_) | refine sd ?_)
  refine call_of (c15x _) ?_
  repeat (first | (with_reducible first | refine Ju.go ?_ | (refine Hd.go ?_; intro K Q hK hQ; simp only []; subst hK hQ) | refine Jr.go ?_) | refine sd ?_)
  exact end1 (fzI _)
 ·have n1 : ¬ (8 : Int) < gr.length := by omega
  have n2 : ¬ (12 : Int) < l.length := by omega
  have n3 : ¬ (20 : Int) < ef.length := by omega
  have n4 : ¬ po < 1 := by omega
  have n5 : ¬ (100 : Int) < po := by omega
  repeat (first | (with_reducible first | refine Ju.go ?_ | (refine Hd.go ?_; intro K Q hK hQ; simp only [n1, decide_false, n2, Bool.or_self, n3, n4, n5, Bool.false_eq_true, if_false, List.getD_cons_zero, nod_arr, nd_no]; subst hK hQ) | refine Jr.go ?_) | refine sd ?_)
  refine callE_of (c21 gr _ (by omega)) ?_
  rintro v G1 ⟨l1, s1, r1, w1', bw1, a1, rfl, B1⟩
  repeat (first | (with_reducible first | refine Ju.go ?_ | (refine Hd.go ?_; intro K Q hK hQ; simp only [nod_tup, List.map_cons, nod2_agg, nodL_ptr, List.map_nil, nod2_imm, e_x20, e_x21, nod_agg, e_bxI, okE_agg, lv_cons, List.length_nil, Nat.zero_add, Nat.reduceAdd, all_c, ck_ptr, all_n, Bool.and_self, and_true, true_and, List.getD_cons_zero, nod_arr, nd_no]; subst hK hQ) | refine Jr.go ?_) | refine sd ?_)
  refine callE_of (c21 gr _ (by omega)) ?_
  rintro v G2 ⟨l2, s2, r2, w2', bw2, a2, rfl, B2⟩
  have T := Two.mk' B1 B2
  clear B1 B2
  repeat (first | (with_reducible first | refine Ju.go ?_ | (refine Hd.go ?_; intro K Q hK hQ; simp only [nod_tup, List.map_cons, nod2_agg, nodL_ptr, List.map_nil, nod2_imm, e_x20, e_x21, nod_agg, e_bxI, okE_agg, lv_cons, List.length_nil, Nat.zero_add, Nat.reduceAdd, all_c, ck_ptr, all_n, Bool.and_self, and_true, true_and, List.getD_cons_succ, List.getD_cons_zero, nod_imm, e_not, Bool.not_true, e_gF, cond_false, j_one, e_cond, Bool.false_eq_true, if_false]; subst hK hQ) | refine Jr.go ?_) | refine sd ?_)
  refine loop_of (fun q : Nat × Ad × Ad × Mo × Hp => q.1 ≤ l.length ∧ Two H q.2.2.2.2 s1 q.2.1 q.2.2.2.1 s2 q.2.2.1 q.2.2.2.1 ∧ Fil q.2.2.2.1 q.1) (fun q => [.arr (l.map spV) .no, ints ef .no, I po, .cptr (.agg [.ptr l1 0, .ptr s1 0, .ptr r1 0]), .cptr (.agg [.ptr l2 0, .ptr s2 0, .ptr r2 0]), I q.1]) (·.2.2.2.2) (fun q => l.length - q.1) (0, a1, a2, mo0 (gsOf gr), G2) ⟨Nat.zero_le _, T, ⟨mo0_Mok (by omega), rfl, rfl, rfl, Nat.zero_le _, Int.le_refl _, Int.le_refl _⟩⟩ rfl rfl ?_
  clear T
  rintro ⟨i, a, b, m, G⟩ ⟨hi, hT, hF⟩
  simp only at hi hT hF ⊢
  repeat (first | (with_reducible first | refine Ju.go ?_ | (refine Hd.go ?_; intro K Q hK hQ; simp only [List.getD_cons_zero, nod_arr, nd_no, e_lenA, List.length_map, List.getD_cons_succ, nod_imm, Try.underlying3, e_lss, e_cond, decide_eq_true_eq]; subst hK hQ) | refine Jr.go ?_) | refine sd ?_)
  by_cases hlt : i < l.length
  ·have d : (i : Int) < l.length := by omega
   have hs := w1.2 _ (getD_memA l default hlt)
   have hi1 : R64 ((i : Int) + 1) := by unfold R64; omega
   repeat (first | (with_reducible first | refine Ju.go ?_ | (refine Hd.go ?_; intro K Q hK hQ; simp only [d, if_true, List.getD_cons_zero, nod_arr, nd_no, List.getD_cons_succ, nod_imm, ix_sp, Int.toNat_natCast, true_and, nod_cptr, e_ldcA, lv_cons, List.length_nil, Nat.zero_add, Nat.reduceAdd, nod_agg, List.map_cons, nodL_imm, nodL_ints, nodL_arr, List.map_nil]; subst hK hQ) | refine Jr.go ?_) | refine sd ?_)
   refine call_of (c14 (l.getD i default) _ hs) ?_
   cases hsm : smB (l.getD i default)
   ·repeat (first | (with_reducible first | refine Ju.go ?_ | (refine Hd.go ?_; intro K Q hK hQ; simp only [nod_imm, e_not, Bool.not_false, e_cond, if_true]; subst hK hQ) | refine Jr.go ?_) | refine sd ?_)
    refine call_of (c15x _) ?_
    repeat (first | (with_reducible first | refine Ju.go ?_ | (refine Hd.go ?_; intro K Q hK hQ; simp only []; subst hK hQ) | refine Jr.go ?_) | refine sd ?_)
    exact end1T (fzI _) (take_low hT.lo hT.ln)
   ·repeat (first | (with_reducible first | refine Ju.go ?_ | (refine Hd.go ?_; intro K Q hK hQ; simp only [nod_imm, e_not, Bool.not_true, e_cond, Bool.false_eq_true, if_false, List.getD_cons_zero, List.getD_cons_succ, nod_cptr, e_fac, Nat.reduceAdd, lv_cons, List.length_nil, Nat.zero_add, Nat.reduceLeDiff, true_and, e_ldcP, nod_arr, nd_no, ix_sp, d, Int.toNat_natCast, e_ldcA, nod_ptr, nod_agg, List.map_cons, nodL_imm, nodL_ints, nodL_arr, List.map_nil]; subst hK hQ) | refine Jr.go ?_) | refine sd ?_)
    have hql := hF.ql
    have hn0 := hF.n0
    have hn1 := hF.n1
    refine callE_of (c22 (l.getD i default) hs hT.x (by omega) ⟨hn0, by omega⟩) ?_
    rintro v G3 hG3
    by_cases ho : okSp (l.getD i default) = true
    ·rw [if_pos ho] at hG3
     obtain ⟨rfl, a3, st3⟩ := hG3
     have T3 := hT.step st3
     clear st3
     repeat (first | (with_reducible first | refine Ju.go ?_ | (refine Hd.go ?_; intro K Q hK hQ; simp only [List.getD_cons_succ, List.getD_cons_zero, nod_cptr, e_fac, Nat.reduceAdd, lv_cons, List.length_nil, Nat.zero_add, Nat.reduceLeDiff, true_and, e_ldcP, nod_arr, nd_no, nod_imm, ix_sp, d, Int.toNat_natCast, e_ldcA, nod_ptr, nod_agg, List.map_cons, nodL_imm, nodL_ints, nodL_arr, List.map_nil]; subst hK hQ) | refine Jr.go ?_) | refine sd ?_)
     refine callE_of (c22 (l.getD i default) hs T3.y (by omega) ⟨hn0, by omega⟩) ?_
     rintro v G4 hG4
     rw [if_pos ho] at hG4
     obtain ⟨rfl, a4, st4⟩ := hG4
     have T4 := (T3.swap.step st4).swap
     clear st4 T3
     repeat (first | (with_reducible first | refine Ju.go ?_ | (refine Hd.go ?_; intro K Q hK hQ; simp only [List.getD_cons_zero, List.getD_cons_succ, nod_imm, Try.underlying3, e_add, hi1, true_and]; subst hK hQ) | refine Jr.go ?_) | refine sd ?_)
     exact ⟨(i + 1, a3, a4, mIns m.q.length (l.getD i default) m, G4), ⟨by show i + 1 ≤ l.length; omega, T4, hF.ins (by omega) ho⟩, rfl, rfl, by show l.length - (i + 1) < l.length - i; omega⟩
    ·rw [if_neg ho] at hG3
     obtain ⟨rfl, rfl⟩ := hG3
     repeat (first | (with_reducible first | refine Ju.go ?_ | (refine Hd.go ?_; intro K Q hK hQ; simp only [List.getD_cons_succ, List.getD_cons_zero, nod_cptr, e_fac, Nat.reduceAdd, lv_cons, List.length_nil, Nat.zero_add, Nat.reduceLeDiff, true_and, e_ldcP, nod_arr, nd_no, nod_imm, ix_sp, d, Int.toNat_natCast, e_ldcA, nod_ptr, nod_agg, List.map_cons, nodL_imm, nodL_ints, nodL_arr, List.map_nil]; subst hK hQ) | refine Jr.go ?_) | refine sd ?_)
     refine callE_of (c22 (l.getD i default) hs hT.y (by omega) ⟨hn0, by omega⟩) ?_
     rintro v G4 hG4
     rw [if_neg ho] at hG4
     obtain ⟨rfl, rfl⟩ := hG4
     repeat (first | (with_reducible first | refine Ju.go ?_ | (refine Hd.go ?_; intro K Q hK hQ; simp only [List.getD_cons_zero, List.getD_cons_succ, nod_imm, Try.underlying3, e_add, hi1, true_and]; subst hK hQ) | refine Jr.go ?_) | refine sd ?_)
     exact ⟨(i + 1, a, b, m, _), ⟨by show i + 1 ≤ l.length; omega, hT, hF.mono (Nat.le_succ _)⟩, rfl, rfl, by show l.length - (i + 1) < l.length - i; omega⟩
  ·have d : ¬ (i : Int) < l.length := by omega
   have hql := hF.ql
   repeat (first | (with_reducible first | refine Ju.go ?_ | (refine Hd.go ?_; intro K Q hK hQ; simp only [d, if_false, List.getD_cons_succ, List.getD_cons_zero, nod_cptr, e_fac, Nat.reduceAdd, lv_cons, List.length_nil, Nat.zero_add, Nat.reduceLeDiff, true_and, e_ldcP, nod_ptr]; subst hK hQ) | refine Jr.go ?_) | refine sd ?_)
   refine callE_of (c31 1099511627776 hT.y hF.ok) ?_
   rintro v G5 hG5
   rw [if_pos (by decide)] at hG5
   obtain ⟨rfl, st5⟩ := hG5
   have T5 := (hT.swap.step st5).swap
   have md5 : Md m (mMake 1099511627776 m) := Md.all hF.la (M := 1073741824) (by decide) (fun x hx => ⟨((hF.ok.q x hx).2).1, (okSp.ef (hF.ok.q x hx).1).2⟩) (by omega)
   have ok5 := hF.ok
   have ok5' := hF.ok.make (e := 1099511627776) (by decide)
   have ck5 := hF.ck
   generalize mMake 1099511627776 m = m' at *
   clear st5 hT hF
   repeat (first | (with_reducible first | refine Ju.go ?_ | (refine Hd.go ?_; intro K Q hK hQ; simp only [nod_imm, Try.underlying30, e_neq, decide_true, Bool.not_true, e_cond, Bool.false_eq_true, if_false]; subst hK hQ) | refine Jr.go ?_) | refine sd ?_)
   refine loop_of (fun q : Nat × Ad × Ad × Mo × Mo × Hp => q.1 ≤ ef.length ∧ Two H q.2.2.2.2.2 s1 q.2.1 q.2.2.2.1 s2 q.2.2.1 q.2.2.2.2.1 ∧ Md q.2.2.2.1 q.2.2.2.2.1 ∧ Mok q.2.2.2.1 ∧ Mok q.2.2.2.2.1 ∧ q.2.2.2.1.ck ≤ 100 * q.1) (fun q => [ints ef .no, I po, .cptr (.agg [.ptr l1 0, .ptr s1 0, .ptr r1 0]), .cptr (.agg [.ptr l2 0, .ptr s2 0, .ptr r2 0]), I q.1]) (·.2.2.2.2.2) (fun q => ef.length - q.1) (0, a, b, m, m', G5) ⟨Nat.zero_le _, T5, md5, ok5, ok5', by show m.ck ≤ 100 * ((0 : Nat) : Int); omega⟩ rfl rfl ?_
   clear T5 md5 ok5 ok5' ck5
   rintro ⟨j, a, b, A, B', G⟩ ⟨hj, hT, hMd, hA, hB, hck⟩
   simp only at hj hT hMd hA hB hck ⊢
   repeat (first | (with_reducible first | refine Ju.go ?_ | (refine Hd.go ?_; intro K Q hK hQ; simp only [List.getD_cons_zero, nod_ints, nd_no, e_len, List.getD_cons_succ, nod_imm, Try.underlying3, e_lss, e_cond, decide_eq_true_eq]; subst hK hQ) | refine Jr.go ?_) | refine sd ?_)
   by_cases hjl : j < ef.length
   ·have dj : (j : Int) < ef.length := by omega
    generalize he : ef.getD j 0 = e
    by_cases hr : 0 ≤ e ∧ e ≤ 1099511627776
    ·have e1 : ¬ e < 0 := by omega
     have e2 : ¬ (1099511627776 : Int) < e := by omega
     repeat (first | (with_reducible first | refine Ju.go ?_ | (refine Hd.go ?_; intro K Q hK hQ; simp only [dj, if_true, List.getD_cons_zero, nod_ints, nd_no, List.getD_cons_succ, nod_imm, e_ix, Int.toNat_natCast, he, true_and, nod_cptr, e_ldc, Try.underlying3, e_lss, e1, decide_false, e_gtr, e2, e_gF, cond_false, j_side, j_one, e_cond, Bool.false_eq_true, if_false, e_fac, Nat.reduceAdd, lv_cons, List.length_nil, Nat.zero_add, Nat.reduceLeDiff, e_ldcP, nod_ptr]; subst hK hQ) | refine Jr.go ?_) | refine sd ?_)
     refine callE_of (c31 e hT.x hA) ?_
     rintro v G3 hG3
     rw [if_pos (inB_iff.2 hr)] at hG3
     obtain ⟨rfl, st3⟩ := hG3
     have T3 := hT.step st3
     have md3 := hMd.make e
     have ok3 := hA.make hr.1
     have ck3 : (mMake e A).ck = A.ck := rfl
     generalize mMake e A = A2 at *
     clear st3 hT hMd
     repeat (first | (with_reducible first | refine Ju.go ?_ | (refine Hd.go ?_; intro K Q hK hQ; simp only [List.getD_cons_succ, List.getD_cons_zero, nod_cptr, e_fac, Nat.reduceAdd, lv_cons, List.length_nil, Nat.zero_add, Nat.reduceLeDiff, true_and, e_ldcP, nod_ptr, nod_imm]; subst hK hQ) | refine Jr.go ?_) | refine sd ?_)
     obtain ⟨N, hN⟩ : ∃ N : Nat, po = N := ⟨po.toNat, by omega⟩
     have hip : inB po 0 100000 = true := inB_iff.2 ⟨by omega, by omega⟩
     refine callE_of (c23 po T3.x ok3 (fun _ => by omega)) ?_
     rintro v G4 hG4
     rw [if_pos hip, hN, Int.toNat_natCast] at hG4
     obtain ⟨⟨f4, g4, hf4, hg4, rfl⟩, ⟨a4, st4⟩, ok4, ck4, hl4⟩ := hG4
     have T4 := T3.step st4
     clear st4 T3
     repeat (first | (with_reducible first | refine Ju.go ?_ | (refine Hd.go ?_; intro K Q hK hQ; simp only [nod_tup, List.map_cons, nod2_ints, nod2_imm, List.map_nil, e_x30, e_x31, e_x32, List.getD_cons_zero, List.getD_cons_succ, nod_cptr, e_fac, Nat.reduceAdd, lv_cons, List.length_nil, Nat.zero_add, Nat.reduceLeDiff, true_and, e_ldcP, nod_ptr, nod_imm]; subst hK hQ) | refine Jr.go ?_) | refine sd ?_)
     refine callE_of (c23 po T4.y hB (fun _ => by rw [md3.ck]; omega)) ?_
     rintro v G6 hG6
     rw [if_pos hip, hN, Int.toNat_natCast] at hG6
     obtain ⟨⟨f6, g6, hf6, hg6, rfl⟩, ⟨a6, st6⟩, ok6, ck6, hl6⟩ := hG6
     have T6 := (T4.swap.step st6).swap
     clear st6 T4
     have hmd := md_pull md3 N
     have hxl := mPull_len A2 N
     have q4 := nd_of hf4
     have q6 := nd_of hf6
     have q5 := nd_of hg4
     have q7 := nd_of hg6
     generalize (mPull N A2).1 = xs at *
     generalize (mPull N A2).2.2 = ns at *
     generalize (mPull N A2).2.1 = A3 at *
     generalize (mPull N B').1 = ys at *
     generalize (mPull N B').2.2 = ks at *
     generalize (mPull N B').2.1 = B3 at *
     have n4 : (V.arr (ns.map nwV) g4).nod2 = .arr (ns.map nwV) g4 := by rcases hg4 with rfl | rfl <;> rfl
     have n6 : (V.arr (ks.map nwV) g6).nod2 = .arr (ks.map nwV) g6 := by rcases hg6 with rfl | rfl <;> rfl
     repeat (first | (with_reducible first | refine Ju.go ?_ | (refine Hd.go ?_; intro K Q hK hQ; simp only [nod_tup, List.map_cons, nod2_ints, q6, n6, nod2_imm, List.map_nil, e_x30, e_x31, e_x32, q4, n4, List.getD_cons_succ, List.getD_cons_zero, nod_imm, Try.underlying30, e_neq, decide_true, Bool.not_true, e_gF, cond_false, j_one, e_cond, Bool.false_eq_true, if_false]; subst hK hQ) | refine Jr.go ?_) | refine sd ?_)
     refine loop_of (fun k : Nat => k ≤ ns.length ∧ ∀ y, y ∈ ns.take k → y.k ≠ 6) (fun k => [ints ef .no, I po, .cptr (.agg [.ptr l1 0, .ptr s1 0, .ptr r1 0]), .cptr (.agg [.ptr l2 0, .ptr s2 0, .ptr r2 0]), I j, ints xs f4, .arr (ns.map nwV) g4, ints ys f6, .arr (ks.map nwV) g6, I k]) (fun _ => G6) (fun k => ns.length - k) 0 ⟨Nat.zero_le _, fun y hy => (by cases hy)⟩ rfl rfl ?_
     rintro k ⟨hk, hno⟩
     repeat (first | (with_reducible first | refine Ju.go ?_ | (refine Hd.go ?_; intro K Q hK hQ; simp only [List.getD_cons_succ, List.getD_cons_zero, nod_arr, q5, e_lenA, List.length_map, nod_imm, Try.underlying3, e_lss, e_cond, decide_eq_true_eq]; subst hK hQ) | refine Jr.go ?_) | refine sd ?_)
     by_cases hkl : k < ns.length
     ·have dk : (k : Int) < ns.length := by omega
      have r1 : R64 ((k : Int) + 1) := by unfold R64; omega
      by_cases h6 : (ns.getD k default).k = 6
      ·repeat (first | (with_reducible first | refine Ju.go ?_ | (refine Hd.go ?_; intro K Q hK hQ; simp only [dk, if_true, List.getD_cons_succ, List.getD_cons_zero, nod_arr, q5, nod_imm, ix_nw, Int.toNat_natCast, true_and, nod_cptr, e_fac, Nat.zero_add, h6, lv_cons, List.length_nil, Nat.reduceAdd, Nat.reduceLeDiff, e_ldc, Try.underlying57, e_eql, decide_true, e_cond]; subst hK hQ) | refine Jr.go ?_) | refine sd ?_)
       refine call_of (c15x _) ?_
       repeat (first | (with_reducible first | refine Ju.go ?_ | (refine Hd.go ?_; intro K Q hK hQ; simp only []; subst hK hQ) | refine Jr.go ?_) | refine sd ?_)
       exact end1T (fzI _) (take_low T6.lo T6.ln)
      ·repeat (first | (with_reducible first | refine Ju.go ?_ | (refine Hd.go ?_; intro K Q hK hQ; simp only [dk, if_true, List.getD_cons_succ, List.getD_cons_zero, nod_arr, q5, nod_imm, ix_nw, Int.toNat_natCast, true_and, nod_cptr, e_fac, Nat.zero_add, lv_cons, List.length_nil, Nat.reduceAdd, Nat.reduceLeDiff, e_ldc, Try.underlying57, e_eql, h6, decide_false, e_cond, Bool.false_eq_true, if_false, Try.underlying3, e_add, r1]; subst hK hQ) | refine Jr.go ?_) | refine sd ?_)
       refine ⟨k + 1, ⟨by omega, fun y hy => ?_⟩, rfl, rfl, by omega⟩
       rw [take_snocA ns default hkl] at hy
       rcases List.mem_append.1 hy with hy | hy
       ·exact hno y hy
       ·rw [List.mem_singleton] at hy
        rw [hy]; exact h6
     ·have dk : ¬ (k : Int) < ns.length := by omega
      rw [List.take_of_length_le (by omega)] at hno
      rcases hmd with ⟨y, hy, h6⟩ | ⟨f1, f2, f3⟩
      ·exact absurd h6 (hno y hy)
      ·subst f1 f2
       repeat (first | (with_reducible first | refine Ju.go ?_ | (refine Hd.go ?_; intro K Q hK hQ; simp only [dk, if_false, List.getD_cons_succ, List.getD_cons_zero, nod_ints, q4, q6]; subst hK hQ) | refine Jr.go ?_) | refine sd ?_)
       refine call_of (c24 _ _ f4 f6 _ (by omega) hf4 hf6) ?_
       rw [decide_eq_true rfl]
       repeat (first | (with_reducible first | refine Ju.go ?_ | (refine Hd.go ?_; intro K Q hK hQ; simp only [nod_imm, e_not, Bool.not_true, List.getD_cons_succ, List.getD_cons_zero, nod_arr, q5, q7, e_gF, cond_false]; subst hK hQ) | refine Jr.go ?_) | refine sd ?_)
       refine call32 hg4 hg6 _ _ _ (by omega) ?_
       rw [decide_eq_true rfl]
       have r1 : R64 ((j : Int) + 1) := by unfold R64; omega
       repeat (first | (with_reducible first | refine Ju.go ?_ | (refine Hd.go ?_; intro K Q hK hQ; simp only [nod_imm, e_not, Bool.not_true, List.getD_cons_zero, List.getD_cons_succ, e_cond, Bool.false_eq_true, if_false, Try.underlying3, e_add, r1, true_and]; subst hK hQ) | refine Jr.go ?_) | refine sd ?_)
       exact ⟨(j + 1, a4, a6, A3, B3, G6), ⟨by show j + 1 ≤ ef.length; omega, T6, f3, ok4, ok6, by show A3.ck ≤ 100 * ((j + 1 : Nat) : Int); omega⟩, rfl, rfl, by show ef.length - (j + 1) < ef.length - j; omega⟩
    ·have e1 : (decide (e < 0) || decide ((1099511627776 : Int) < e)) = true := by
      simp only [Bool.or_eq_true, decide_eq_true_eq]; omega
     repeat (first | (with_reducible first | refine Ju.go ?_ | (refine Hd.go ?_; intro K Q hK hQ; simp only [dj, if_true, List.getD_cons_zero, nod_ints, nd_no, List.getD_cons_succ, nod_imm, e_ix, Int.toNat_natCast, he, true_and, nod_cptr, e_ldc, Try.underlying3, e_lss, e_gtr, e_gF, j_fl, decide_eq_false_iff_not, j_or', e1, j_side, j_one, e_cond]; subst hK hQ) | refine Jr.go ?_) | refine sd ?_)
     refine call_of (c15x _) ?_
     repeat (first | (with_reducible first | refine Ju.go ?_ | (refine Hd.go ?_; intro K Q hK hQ; simp only []; subst hK hQ) | refine Jr.go ?_) | refine sd ?_)
     exact end1T (fzI _) (take_low hT.lo hT.ln)
   ·have dj : ¬ (j : Int) < ef.length := by omega
    repeat (first | (with_reducible first | refine Ju.go ?_ | (refine Hd.go ?_; intro K Q hK hQ; simp only [dj, if_false]; subst hK hQ) | refine Jr.go ?_) | refine sd ?_)
    refine call_of (c15x _) ?_
    repeat (first | (with_reducible first | refine Ju.go ?_ | (refine Hd.go ?_; intro K Q hK hQ; simp only []; subst hK hQ) | refine Jr.go ?_) | refine sd ?_)
    exact end1T (fzI _) (take_low hT.lo hT.ln)
open Go.ChangeShapes Go.WideShapes Go.ChangeAt Go.RowKit
theorem own : ownKnob Try.prog.godebug = none := by kernel_rfl
theorem laidOut : laidOutB Try.prog = true := by kernel_rfl
set_option maxRecDepth 100000 in
theorem lifted (os : Os) (started : os.Started) (H : Type) (enc : TypeId × Value → H) :
    ReturnsInHanded {} Try.checked os 7 .any (Rows.streamMadeSpec.pre6 enc Try.prog Try.f7 Rows.streamMadeRow.domain false) (Rows.streamMadeSpec.post enc Try.prog Try.f7 false true false false) := by
  refine returnsInHanded_of_change (C := Try.checked) own started (by kernel_rfl) Try.func7
    (ChangeSpec.witness6 (enc := enc) (C := Try.checked) false ⟨#[], #[.slice none 0 0, .slice none 0 0, .slice none 0 0, .int .i64 0], []⟩ 8 (by kernel_rfl) (by kernel_rfl) (by kernel_rfl) (by kernel_rfl)) ?_
  intro W base args ds gs before hval0 hW hcnd _
  have hval : ∀ (j : Nat) t v, Try.f7.params[j]? = some t → args[j]? = some v → Value.okWide Try.prog W .any base t v := hval0
  have hW' := hW
  obtain ⟨p, q, hA0, hV, rfl, hfz, hnd⟩ := hW
  have hA : DataW.TrodAll enc Try.prog W 0 (fun _ => true) true Try.f7.params.toList args.toList ds p := hA0
  rw [Try.params7] at hA hval
  obtain ⟨v0, vs0, d0, ds0, p0, q0, hargs, rfl, rfl, h0, r0⟩ := trodAll_cons hA
  obtain ⟨v1, vs1, d1, ds1, p1, q1, rfl, rfl, rfl, h1, r1⟩ := trodAll_cons r0
  obtain ⟨v2, vs2, d2, ds2, p2, q2, rfl, rfl, rfl, h2, r2⟩ := trodAll_cons r1
  obtain ⟨v3, vs3, d3, ds3, p3, q3, rfl, rfl, rfl, h3, r3⟩ := trodAll_cons r2
  obtain ⟨rfl, rfl, rfl⟩ := trodAll_nil r3
  obtain rfl : args = #[v0, v1, v2, v3] := by cases args; simp_all
  obtain ⟨rfl, rfl⟩ := trodVars_none hV
  have lt0 : ∀ x ∈ p0, x.block < W.heap.size := by obtain ⟨m, hm⟩ := h0; exact DataW.trod_lt m _ _ _ hm
  obtain ⟨l0, w0, e0⟩ := in_grants (hval 0 _ v0 rfl rfl) h0
  have lt1 : ∀ x ∈ p1, x.block < W.heap.size := by obtain ⟨m, hm⟩ := h1; exact DataW.trod_lt m _ _ _ hm
  obtain ⟨l1, w1, e1⟩ := in_sps (hval 1 _ v1 rfl rfl) h1
  have lt2 : ∀ x ∈ p2, x.block < W.heap.size := by obtain ⟨m, hm⟩ := h2; exact DataW.trod_lt m _ _ _ hm
  obtain ⟨l2, w2, e2⟩ := in_is (hval 2 _ v2 rfl rfl) h2
  have lt3 : ∀ x ∈ p3, x.block < W.heap.size := by obtain ⟨m, hm⟩ := h3; exact DataW.trod_lt m _ _ _ hm
  obtain ⟨n3, e3, w3⟩ := in_int Try.underlying3 (hval 3 _ v3 rfl rfl) h3
  clear hA0 hval0
  refine (bridge (args := [.arr (l0.map gnV) .no, .arr (l1.map spV) .no, ints l2 .no, I n3]) (ra := #[v0, v1, v2, v3]) (c7 l0 l1 l2 n3 [] w0 w1 w2) rfl (by intro a ha; simp at ha; rcases ha with rfl | rfl | rfl | rfl <;> rfl) (fun i => ?_)).mono fun e W' ⟨he, bel⟩ => ?_
  · match i with
    | 0 => exact e0
    | 1 => exact e1
    | 2 => exact e2
    | 3 => exact e3
    | i + 4 => exact .junk _
  · subst he
    exact ⟨_, rfl, _, _, _, [], _, [], hW', trodAll_mk1 (shut_bool Try.underlying4 _), (trodAll_cons_mk (Below.trod laidOut (by kernel_rfl) (of_decide_eq_true (by kernel_rfl)) h0 bel lt0) (trodAll_cons_mk (Below.trod laidOut (by kernel_rfl) (of_decide_eq_true (by kernel_rfl)) h1 bel lt1) (trodAll_cons_mk (Below.trod laidOut (by kernel_rfl) (of_decide_eq_true (by kernel_rfl)) h2 bel lt2) (trodAll_cons_mk (Below.trod laidOut (by kernel_rfl) (of_decide_eq_true (by kernel_rfl)) h3 bel lt3) trodAll_mk0)))), rfl, bel.frame _, fun h => by cases h⟩
theorem over : Rows.streamMadeRow.holds Try.pinned (OpenSpec.ofChange Rows.streamMadeSpec) :=
 OpenClaim.holds_of_wide 7 Try.f7 rfl rfl rfl rfl rfl rfl rfl ⟨rfl, rfl, rfl, rfl, rfl⟩ rfl rfl rfl rfl rfl (by kernel_rfl) Try.func7 (by kernel_rfl)
  (of_decide_eq_true (by kernel_rfl)) (by unfold Func.isWrapper; first | (rw [if_pos (by decide +kernel)]; kernel_rfl) | (rw [if_neg (by decide +kernel)]; exact ⟨rfl, rfl⟩))
  (fun os started H enc _ => lifted os started H enc)
theorem streamMade_holds : Rows.StreamMadeSaid := over
#print axioms streamMade_holds
end Go.Proofs.Ytlnjhnemmemloaa
