/- NumeralAlone: if there are no twins, no words are read as two numbers; if there are, the words of both are equal; no condition. -/
import Derived.Test.YtgodfjbmblghnaaX6
import Derived.Test.YtgodfjbmblghnaaProg
import Derived.Test.YtgodfjbmblghnaaRows
set_option linter.unusedVariables false
set_option maxRecDepth 20000
set_option maxHeartbeats 4000000
namespace Go.Proofs.Ytgodfjbmblghnaa
open Go Go.Ab Go.Proofs
def an11 : An := { imm := [3, 4], jn := [(2, [2, 3, 4, 42]), (5, [2, 3, 4, 7, 8, 9]), (8, [2, 3, 4, 7, 9, 10, 11, 60]), (14, [2, 3, 4, 7, 9, 10, 11, 12, 13, 14]), (16, [2, 3, 4, 7, 9, 10, 11, 12, 13, 14, 15, 16]), (17, [2, 3, 4, 7, 9, 10, 11, 12, 115]), (20, [2, 3, 4, 7, 10])], lp := [(10, [2, 3, 4, 7, 9, 10, 11, 12])], loud := [100], ord := [] }
def vc11 (C : Cb) (a0 a1 a2 : V) (H : Hp) (R : List V → Hp → Prop) : Prop :=
 C.aBx true 7 a0.nod H fun v1 H2 =>
 C.aBx true 4 a1.nod H2 fun v3 H4 =>
 Jn (fun l5 H6 =>
 aCond (l5.getD 3 .junk).nod (
 C.callE 15 [] H6 fun v8 H9 =>
 R [v8] H9) (
 C.aLd 7 true false (l5.getD 1 .junk).nod H6 fun v10 H11 =>
 C.aLd 4 true false (l5.getD 2 .junk).nod H11 fun v12 H13 =>
 C.callE 37 [v10.nod, v12.nod] H13 fun v14 H15 =>
 C.aExt 0 v14.nod.nod fun v16 =>
 C.aExt 1 v14.nod.nod fun v17 =>
 Jn (fun l18 H19 =>
 C.aFA 0 1 false (l18.getD 5 .junk).nod fun v21 =>
 C.aSt 1 v21.nod (l18.getD 0 .junk).nod H19 fun v22 H23 =>
 C.aLd 7 true false (l18.getD 1 .junk).nod H23 fun v24 H25 =>
 C.aLd 4 true false (l18.getD 5 .junk).nod H25 fun v26 H27 =>
 C.callE 20 [v24.nod, v26.nod] H27 fun v28 H29 =>
 C.aExt 0 v28.nod.nod fun v30 =>
 C.aExt 1 v28.nod.nod fun v31 =>
 Jn (fun l32 H33 =>
 aCond (l32.getD 7 .junk).nod (
 R [(B false)] H33) (
 LoopA (fun l35 H36 K37 =>
 C.aLen (l35.getD 3 .junk).nod.nod fun v38 =>
 C.aBin (Try.prog.underlying 3) .lss (l35.getD 7 .junk).nod.nod v38.nod fun v39 =>
 aCond v39.nod (
 C.aIx 2 (l35.getD 3 .junk).nod.nod (l35.getD 7 .junk).nod.nod fun v40 =>
 C.aFA 0 1 false v40.nod fun v41 =>
 C.aLd 1 false false v41.nod H36 fun v42 H43 =>
 C.aFA 0 1 false (l35.getD 4 .junk).nod fun v44 =>
 C.aSt 1 v44.nod v42 H43 fun v45 H46 =>
 Jn (fun l47 H48 =>
 C.aIx 2 (l47.getD 3 .junk).nod.nod (l47.getD 7 .junk).nod.nod fun v50 =>
 C.aFA 1 1 false v50.nod fun v51 =>
 C.aLd 1 false false v51.nod H48 fun v52 H53 =>
 C.aFA 0 1 false (l47.getD 4 .junk).nod fun v54 =>
 C.aSt 1 v54.nod v52 H53 fun v55 H56 =>
 Jn (fun l57 H58 =>
 Jn (fun l60 H61 =>
 aCond (l60.getD 8 .junk).nod (
 R [(B false)] H61) (
 C.aBin (Try.prog.underlying 3) .add (l60.getD 7 .junk).nod.nod (I 1) fun v63 =>
 K37 [(l60.getD 0 .junk), (l60.getD 1 .junk), (l60.getD 2 .junk), (l60.getD 3 .junk), (l60.getD 4 .junk), (l60.getD 5 .junk), (l60.getD 6 .junk), v63] H61))
 (fun R62 =>
 C.aBin (Try.prog.underlying 29) .neq (l57.getD 9 .junk).nod.nod (I 0) fun v64 =>
 Jv (fun v65 H66 =>
 Jv (fun v69 H70 =>
 Jv (fun v75 H76 =>
 R62 [(l57.getD 0 .junk), (l57.getD 1 .junk), (l57.getD 2 .junk), (l57.getD 3 .junk), (l57.getD 4 .junk), (l57.getD 5 .junk), (l57.getD 6 .junk), (l57.getD 7 .junk), v75] H76)
 (fun R77 =>
 aG v69.nod false (
 C.aIx 2 (l57.getD 3 .junk).nod.nod (l57.getD 7 .junk).nod.nod fun v78 =>
 C.aFA 0 1 false v78.nod fun v79 =>
 C.aLd 1 false false v79.nod H70 fun v80 H81 =>
 C.aIx 2 (l57.getD 3 .junk).nod.nod (l57.getD 7 .junk).nod.nod fun v82 =>
 C.aFA 1 1 false v82.nod fun v83 =>
 C.aLd 1 false false v83.nod H81 fun v84 H85 =>
 C.aBin (Try.prog.underlying 3) .geq v80.nod v84.nod fun v86 =>
 R77 v86.nod H85) (
 R77 (B true) H70)))
 (fun R71 =>
 aG v65.nod false (
 C.call 25 [(l57.getD 8 .junk).nod.nod, (l57.getD 10 .junk).nod.nod] H66 fun v72 H73 =>
 C.aUn .not v72.nod fun v74 =>
 R71 v74.nod H73) (
 R71 (B true) H66)))
 (fun R67 =>
 aG v64.nod false (
 C.aBin (Try.prog.underlying 29) .neq (l57.getD 11 .junk).nod.nod (I 0) fun v68 =>
 R67 v68.nod H58) (
 R67 (B true) H58))))
 (fun R59 =>
 C.aLd 7 true false (l47.getD 1 .junk).nod H56 fun v87 H88 =>
 C.aLd 4 true false (l47.getD 4 .junk).nod H88 fun v89 H90 =>
 C.callE 20 [v87.nod, v89.nod] H90 fun v91 H92 =>
 C.aExt 0 v91.nod.nod fun v93 =>
 C.aExt 1 v91.nod.nod fun v94 =>
 R59 [(l47.getD 0 .junk), (l47.getD 1 .junk), (l47.getD 2 .junk), (l47.getD 3 .junk), (l47.getD 4 .junk), (l47.getD 5 .junk), (l47.getD 6 .junk), (l47.getD 7 .junk), (l47.getD 8 .junk), (l47.getD 9 .junk), v93, v94] H92))
 (fun R49 =>
 C.aLd 7 true false (l35.getD 1 .junk).nod H46 fun v95 H96 =>
 C.aLd 4 true false (l35.getD 4 .junk).nod H96 fun v97 H98 =>
 C.callE 20 [v95.nod, v97.nod] H98 fun v99 H100 =>
 C.aExt 0 v99.nod.nod fun v101 =>
 C.aExt 1 v99.nod.nod fun v102 =>
 R49 [(l35.getD 0 .junk), (l35.getD 1 .junk), (l35.getD 2 .junk), (l35.getD 3 .junk), (l35.getD 4 .junk), (l35.getD 5 .junk), (l35.getD 6 .junk), (l35.getD 7 .junk), v101, v102] H100)) (
 Jn (fun l103 H104 =>
 C.aLd 7 true false (l103.getD 1 .junk).nod H104 fun v106 H107 =>
 C.aLd 4 true false (l103.getD 2 .junk).nod H107 fun v108 H109 =>
 C.callE 27 [v106.nod, v108.nod, (l103.getD 4 .junk).nod.nod] H109 fun v110 H111 =>
 C.aExt 0 v110.nod.nod fun v112 =>
 C.aExt 1 v110.nod.nod fun v113 =>
 C.aBin (Try.prog.underlying 29) .eql v113.nod.nod (I 0) fun v114 =>
 Jv (fun v115 H116 =>
 Jv (fun v123 H124 =>
 R [v123] H124)
 (fun R125 =>
 aG v115.nod true (
 C.callE 15 [] H116 fun v126 H127 =>
 R125 v126.nod H127) (
 R125 (B false) H116)))
 (fun R117 =>
 aG v114.nod true (
 C.aLen (l103.getD 3 .junk).nod.nod fun v118 =>
 C.aBin (Try.prog.underlying 3) .gtr v118.nod (I 0) fun v119 =>
 aG v119.nod false (
 C.aBS 1 1 (I 0) [(0, (l103.getD 0 .junk).nod.nod)] fun v120 =>
 C.callE 29 [v112.nod.nod, v120.nod] H111 fun v121 H122 =>
 R117 v121.nod.nod H122) (
 R117 (B true) H111)) (
 UD = UD ∧
 UD = UD ∧
 UD = UD ∧
 UD = UD ∧
 R117 (B false) H111)))
 (fun R105 =>
 C.aBin (Try.prog.underlying 29) .neq (l35.getD 6 .junk).nod.nod (I 0) fun v128 =>
 aCond v128.nod (
 C.aBin (Try.prog.underlying 29) .eql (l35.getD 6 .junk).nod.nod (I 5) fun v129 =>
 Jv (fun v130 H131 =>
 R [v130] H131)
 (fun R132 =>
 aG v129.nod true (
 C.callE 15 [] H36 fun v133 H134 =>
 R132 v133.nod H134) (
 R132 (B false) H36))) (
 R105 [(l35.getD 0 .junk), (l35.getD 1 .junk), (l35.getD 2 .junk), (l35.getD 3 .junk), (l35.getD 5 .junk)] H36))))
 [(l32.getD 0 .junk), (l32.getD 1 .junk), (l32.getD 2 .junk), (l32.getD 3 .junk), (l32.getD 4 .junk), (l32.getD 5 .junk), (l32.getD 6 .junk), (I 0)] H33))
 (fun R34 =>
 C.aBin (Try.prog.underlying 29) .neq (l18.getD 4 .junk).nod.nod (I 0) fun v135 =>
 R34 [(l18.getD 0 .junk), (l18.getD 1 .junk), (l18.getD 2 .junk), (l18.getD 3 .junk), (l18.getD 5 .junk), v30, v31, v135] H29))
 (fun R20 =>
 C.aLd 4 true false (l5.getD 2 .junk).nod H15 fun v136 H137 =>
 C.aBx false 4 (V.agg [(I 0), (I 0), (I 0), (I 0)]) H137 fun v138 H139 =>
 C.aSt 4 v138.nod v136 H139 fun v140 H141 =>
 R20 [(l5.getD 0 .junk), (l5.getD 1 .junk), (l5.getD 2 .junk), v16, v17, v138] H141)))
 (fun R7 =>
 C.aLd 7 true false v1.nod H4 fun v142 H143 =>
 C.callE 14 [v142.nod] H143 fun v144 H145 =>
 C.aUn .not v144.nod fun v146 =>
 Jv (fun v147 H148 =>
 Jv (fun v154 H155 =>
 Jv (fun v164 H165 =>
 Jv (fun v168 H169 =>
 R7 [a2, v1, v3, v168] H169)
 (fun R170 =>
 aG v164.nod false (
 C.aFA 0 1 false v3.nod fun v171 =>
 C.aLd 1 false false v171.nod H165 fun v172 H173 =>
 C.aBin (Try.prog.underlying 3) .gtr a2.nod.nod v172.nod fun v174 =>
 R170 v174.nod H173) (
 R170 (B true) H165)))
 (fun R166 =>
 aG v154.nod false (
 C.aBin (Try.prog.underlying 3) .lss a2.nod.nod (I 0) fun v167 =>
 R166 v167.nod H155) (
 R166 (B true) H155)))
 (fun R156 =>
 aG v147.nod false (
 C.aLd 7 true false v1.nod H148 fun v157 H158 =>
 C.aLd 4 true false v3.nod H158 fun v159 H160 =>
 C.callE 22 [v157.nod, v159.nod, (B true)] H160 fun v161 H162 =>
 C.aBin (Try.prog.underlying 29) .neq v161.nod (I 0) fun v163 =>
 R156 v163.nod H162) (
 R156 (B true) H148)))
 (fun R149 =>
 aG v146.nod false (
 C.aFA 0 1 false v3.nod fun v150 =>
 C.aLd 1 false false v150.nod H145 fun v151 H152 =>
 C.aBin (Try.prog.underlying 3) .gtr v151.nod (I 120) fun v153 =>
 R149 v153.nod H152) (
 R149 (B true) H145)))
theorem wf11 : (Nat.ble 3 Try.f11.ntmps && wfC an11 Try.f11.ntmps (Try.f11.body.getD .skip)) = true := by kernel_rfl
theorem tie11 (C : Cb) (a0 a1 a2 : V) (H : Hp) (R : List V → Hp → Prop) : wpG Try.prog C an11 (Try.f11.body.getD .skip) (argF [a0, a1, a2]) H (retG Try.prog C Try.f11 R) (fun _ _ _ => False) (retG Try.prog C Try.f11 R) = vc11 C a0 a1 a2 H R := by kernel_rfl
theorem mk11 (a0 a1 a2 : V) {H : Hp} {v : V} {H1 : Hp} (hd : v.Nd) (hn : H.length ≤ H1.length) (hb : H1 = H ∨ ∀ (b : Nat) (blk : Blk), H1[b]? = some blk → H[b]? = some blk ∨ BelB H1.length blk) (h : vc11 (real Try.prog) a0 a1 a2 H (retF v H1)) : Ret Try.prog 11 [a0, a1, a2] H v H1 :=
  ret_mk (an := an11) hm Try.call11 Try.func11 rfl wf11 hd hn hb (Eq.mpr (tie11 (real Try.prog) a0 a1 a2 H (retF v H1)) h)
theorem mkE11 (a0 a1 a2 : V) {H : Hp} {Q : V → Hp → Prop} (h : vc11 (real Try.prog) a0 a1 a2 H (retW Q)) : RetE Try.prog 11 [a0, a1, a2] H Q :=
  retE_mk (an := an11) hm Try.call11 Try.func11 rfl wf11 (Eq.mpr (tie11 (real Try.prog) a0 a1 a2 H (retW Q)) h)
theorem mko11 (a0 a1 a2 : V) {H : Hp} {xs : List V} {H1 : Hp} (hn : H.length ≤ H1.length) (hb : H1 = H ∨ ∀ (b : Nat) (blk : Blk), H1[b]? = some blk → H[b]? = some blk ∨ BelB H1.length blk) (h : vc11 (real Try.prog) a0 a1 a2 H (retO xs H1)) : Ret Try.prog 11 [a0, a1, a2] H (.arr xs .own) H1 :=
  ret_mko (an := an11) (t := 6) hm Try.call11 Try.func11 rfl wf11 rfl hn hb (Eq.mpr (tie11 (real Try.prog) a0 a1 a2 H (retO xs H1)) h)
end Go.Proofs.Ytgodfjbmblghnaa


set_option linter.unusedVariables false
set_option linter.unusedSimpArgs false
set_option linter.unnecessarySimpa false
set_option maxRecDepth 20000
set_option maxHeartbeats 2000000
namespace Go.Proofs.Ytgodfjbmblghnaa
open Go Go.Ab Go.Proofs
attribute [local congr] g_bin g_nilS g_nilP g_un g_ext g_bx g_fa g_ld g_st g_ix g_ixA g_slc g_mk g_bs g_bd g_nc g_cv g_len g_lenT g_app g_appB g_cpy g_mm g_call g_callG g_calm g_calmG g_range g_res g_pick g_cond g_loop g_Jv g_eqS g_eqP g_fd g_ixT g_ta g_lkp g_upd g_mkM g_appS g_inv g_callE g_callEG g_invE g_zr g_wr
theorem rfE_sc (s : Sy) (n t g k : Int) : rfE s n t g k true = scE [s] n t g k := by
  unfold rfE scE
  simp only [List.all_cons, List.all_nil, Bool.and_true, true_and]
theorem spE_ok {s : Sy} {n t g k : Int} (h : okAsk s n t g k = true) : spE s n t g k = if (saW s n t g k).all gdW = true then 0 else 5 := if_pos h
theorem spL_ok {s : Sy} {n t g k : Int} (h : okAsk s n t g k = true) : spL s n t g k = trW s n t g k := if_pos h
theorem twR_mem {s : Sy} {t g k : Int} : ∀ (i : Nat) (p : Int × Int), p ∈ twR s t g k i ↔ ∃ j : Nat, j < i ∧ (saW s j t g k).all gdW = true ∧ frN s t g k j < j ∧ p = (frN s t g k j, (j : Int)) := by
  intro i
  induction i with
  | zero => intro p; simp [twR]
  | succ i ih =>
    intro p
    show p ∈ twR s t g k i ++ _ ↔ _
    rw [List.mem_append, ih p]
    constructor
    · rintro (⟨j, h1, h2⟩ | h)
      · exact ⟨j, by omega, h2⟩
      · split at h
        · rename_i hc
          rw [List.mem_singleton] at h
          exact ⟨i, by omega, hc.1, hc.2, h⟩
        · cases h
    · rintro ⟨j, h1, h2, h3, h4⟩
      by_cases e : j = i
      · subst e
        right
        rw [if_pos ⟨h2, h3⟩, h4]
        exact List.mem_singleton.2 rfl
      · exact .inl ⟨j, by omega, h2, h3, h4⟩
theorem rd_one {s : Sy} {n t g k m : Int} (h0 : 0 ≤ m) (h1 : m ≤ n) (ha : (saW s m t g k).all gdW = true) (hz : twR s t g k (n.toNat + 1) = []) : rdL s n t g k (txW s m t g k) = [m] := by
  have no : ∀ j : Nat, (j : Int) ≤ n → (saW s j t g k).all gdW = true → frN s t g k j = j := fun j hj hq => by
    obtain ⟨-, f1, -⟩ := frN_spec (show (0 : Int) ≤ j by omega) hq
    refine Decidable.byContradiction fun hh => ?_
    have : (frN s t g k j, (j : Int)) ∈ twR s t g k (n.toNat + 1) := (twR_mem _ _).2 ⟨j, by omega, hq, by omega, rfl⟩
    rw [hz] at this; cases this
  have iff : ∀ j : Nat, (j : Int) ≤ n → (isR s t g k (txW s m t g k) j = true ↔ (j : Int) = m) := fun j hj => by
    rw [isR_iff]
    constructor
    · rintro ⟨q1, q2⟩
      have e1 := no j hj q1
      have e2 := no m.toNat (by omega) (by rw [show ((m.toNat : Nat) : Int) = m by omega]; exact ha)
      rw [show ((m.toNat : Nat) : Int) = m by omega] at e2
      have := frN_eq h0 (show (0 : Int) ≤ j by omega) ha q1 q2
      omega
    · intro e; rw [e]; exact ⟨ha, rfl⟩
  have key : ∀ i : Nat, (i : Int) ≤ n + 1 → ((List.range i).map Int.ofNat).filter (isR s t g k (txW s m t g k)) = if m < i then [m] else [] := by
    intro i
    induction i with
    | zero => intro _; rw [if_neg (by omega)]; rfl
    | succ i ih =>
      intro hi
      rw [fil_snoc, ih (by omega)]
      by_cases e : (i : Int) = m
      · rw [if_neg (by omega), if_pos ((iff i (by omega)).2 e), if_pos (by omega), e]; rfl
      · rw [if_neg (fun h => e ((iff i (by omega)).1 h))]
        by_cases hm : m < i
        · rw [if_pos hm, if_pos (by omega)]; rfl
        · rw [if_neg hm, if_neg (by omega)]; rfl
  have := key (n.toNat + 1) (by omega)
  rw [if_pos (by omega)] at this
  exact this
theorem c11 (s : Sy) (n t g k m : Int) (H : Hp) (sm : Sm s) : Ret Try.prog 11 [syV s, asV n t g k, I m] H (B true) H := by
  refine mk11 _ _ _ rfl (Nat.le_refl _) (.inl rfl) ?_
  simp only [vc11, real]
  repeat (first | (with_reducible first | refine Ju.go ?_ | (refine Hd.go ?_; intro K Q hK hQ; simp only [nod_agg, List.map_cons, nodL_imm, nodL_arr, nd_no, List.map_nil, e_bxI, okE_agg, lv_cons, List.length_nil, Nat.zero_add, Nat.reduceAdd, all_c, ck_I, ck_arr, all_n, Bool.and_self, and_true, true_and, nod_cptr, e_ldcA]; subst hK hQ) | refine Jr.go ?_) | refine sd ?_)
  refine callE_of (c14 s H sm) fun v H1 ⟨hH, b, hv⟩ => ?_
  replace hH := hH.symm
  subst hv hH
  cases b
  · repeat (first | (with_reducible first | refine Ju.go ?_ | (refine Hd.go ?_; intro K Q hK hQ; simp only [nod_imm, e_not, Bool.not_false, nod_cptr, Try.underlying3, e_fac, Nat.zero_add, lv_cons, List.length_nil, Nat.reduceAdd, Nat.reduceLeDiff, List.getD_cons_zero, e_ldc, e_gtr, true_and, e_gF, cond_true, j_one, Try.underlying29, e_ldcA, nod_agg, List.map_cons, nodL_imm, List.map_nil, nodL_arr, nd_no, e_lss, List.getD_cons_succ, e_cond, if_true]; subst hK hQ) | refine Jr.go ?_) | refine sd ?_)
    refine call_of (c15 _) ?_
    repeat (first | (with_reducible first | refine Ju.go ?_ | (refine Hd.go ?_; intro K Q hK hQ; simp only [Try.underlying3, Try.underlying4, Try.underlying5, Try.underlying9, Try.underlying29, Try.underlying57, Try.underlying55, j_one, j_side, j_tl, j_fl, nod_nod, nod_imm, nod_ints, nd_no, nd_own, nd_full, nd_fO, oF_ap, oF_succ, nod_sl, nod_ptr, nod_cptr, nod_fn, nod_junk, nodL_imm, nod_agg, nod_tup, nod2_imm, nod2_agg, cl_imm, cl_ints, cl_agg, e_add, e_sub, e_mul, e_quo, e_rem, e_eql, e_neq, e_lss, e_leq, e_gtr, e_geq, e_beq, e_bne, e_neg, e_not, e_pick, e_cond, e_gT, e_gF, e_len, e_lenA, e_lenS, e_ix, e_ixS, e_ldc, e_ldci, e_fa, rep_cl, rep_I, e_bx, okE_I, okE_B, okE_E8, okE_ints, stV_imm, stV_ints, j_and', j_or', List.getD_cons_zero, List.getD_cons_succ, List.map_cons, List.map_nil, decide_eq_true_eq, Int.toNat_natCast, Nat.mul_one, Nat.zero_add, true_and, and_true, List.length_map, Bool.not_eq_true', decide_eq_false_iff_not, nod_lists, e_lenL, e_ixL, okE_lists, bs1, bs1L, bs2L, e_app, e_appL, e_app0, e_app0L, e_slcLo, e_slcHi, e_slcLH, e_slcHH, e_slcLHH, e_callG, e_callY, e_calmG, e_slS0, e_slSLo, e_slSHi, e_slSLH, e_slSHH, e_slSLHH, e_max2, e_min2, e_max3, e_x20, e_x21, e_x30, e_x31, e_x32, nod2_ints, nod2_lists, rep_fl, bs0, e_nilE, if_true, if_false, cond_true, cond_false, decide_true, decide_false, eq_self, Bool.false_eq_true, false_implies, true_implies, ap_own, ap_full, e_slcLoL, e_slcHiL, e_slcLHL, hp_assoc, hp_cons, hp_nil, hp_len, hp_len_cons, hp_len_nil, lv_cons, lv_nil, vs_0, vs_s, spl_s, spl_0, spl_n, dr_s, dr_0, tk_s, tk_0, e_bxI, e_fac, e_facA, e_ldcA, e_ldcL, e_ldcF, okE_agg, ck_I, ck_B, ck_ints, ck_lists, ck_arr, ck_ptr, ck_cptr, ck_fn, all_c, all_n, stV_agg, stV_lists, stV_arr, stV_ptr, stV_cptr, stV_fn, nodL_ints, nodL_lists, nodL_ptr, nodL_cptr, nodL_fn, nodL_arr0, cl_arr, cl_ptr, cl_cptr, cl_fn, cl_lists, okE_arr, okE_fn, okE_ptr, okE_cptr, e_bd0, e_bd1, e_wr, Nat.reduceAdd, Nat.reduceLeDiff, Nat.reduceEqDiff, Nat.add_zero, Bool.and_self, Bool.true_and, Bool.and_true, e_lc0, e_lA0, e_lM0, e_sc0, e_rc0, e_rA0, e_lI0, e_sI0, e_cI0, e_lc1, e_lA1, e_lM1, e_sc1, e_rc1, e_rA1, e_lI1, e_sI1, e_cI1, e_lc2, e_lA2, e_lM2, e_sc2, e_rc2, e_rA2, e_lI2, e_sI2, e_cI2, e_lc3, e_lA3, e_lM3, e_sc3, e_rc3, e_rA3, e_lI3, e_sI3, e_cI3, e_lc4, e_lA4, e_lM4, e_sc4, e_rc4, e_rA4, e_lI4, e_sI4, e_cI4, e_lc5, e_lA5, e_lM5, e_sc5, e_rc5, e_rA5, e_lI5, e_sI5, e_cI5, own0_arr, own0_ints, own0_lists, own0_imm, own0_ptr, own0_cptr, own0_fn, own0_agg, e_appB, e_appB0, ck_sl, own0_sl, stV_sl, nodL_sl, cl_sl, okE_sl, e_mkM, e_mkI, e_mkIm, e_callB, nod_bfn, nod_ifc, nod_map, nodL_ifc, nodL_bfn, nodL_map, cl_ifc, cl_bfn, ck_ifc, ck_bfn, ck_map, stV_ifc, okE_ifc, okE_bfn, nod_arr, nodL_arr, e_addU, e_mulU, e_shrK, e_shlK, e_andK, e_cv64, e_cv32, e_callEG, e_callEY, e_callEB, e_zr, e_nilSl, e_ncP, e_ncC, e_npnP, e_npeP, e_npnC, e_npeC, e_npnN, e_npeN, e_ixAP, e_ldcP, e_ldcS, e_ldcV, e_ldcT, okE_nilP, ck_nilP, okE_nilI, ck_nilI, okE_str, ck_str, e_tlen, e_tix, e_teq, e_tne, e_tadd, e_tb, e_u8lss, e_u8gtr, noV_full, nod_arr, List.length_map, reduceIte, Int.reduceEq, Int.reduceNeg, ne_eq, not_true_eq_false, not_false_eq_true, Bool.not_true, Bool.not_false, Bool.true_or, Bool.or_true, Bool.false_or, Bool.or_false, Bool.and_true, Bool.and_false, Bool.false_and, Bool.not_not, Bool.or_self, List.length_nil, Int.ofNat_zero, Int.cast_ofNat_Int, Int.natCast_zero, beq_self_eq_true, Bool.true_eq_false]; subst hK hQ) | refine Jr.go ?_) | refine sd ?_)
    exact end1 (fzI _)
  · by_cases h3 : 120 < n
    · repeat (first | (with_reducible first | refine Ju.go ?_ | (refine Hd.go ?_; intro K Q hK hQ; simp only [nod_imm, e_not, Bool.not_true, nod_cptr, Try.underlying3, e_fac, Nat.zero_add, lv_cons, List.length_nil, Nat.reduceAdd, Nat.reduceLeDiff, List.getD_cons_zero, e_ldc, e_gtr, h3, decide_true, true_and, e_gF, cond_false, j_one, Try.underlying29, e_ldcA, nod_agg, List.map_cons, nodL_imm, List.map_nil, nodL_arr, nd_no, cond_true, e_lss, List.getD_cons_succ, e_cond, if_true]; subst hK hQ) | refine Jr.go ?_) | refine sd ?_)
      refine call_of (c15 _) ?_
      repeat (first | (with_reducible first | refine Ju.go ?_ | (refine Hd.go ?_; intro K Q hK hQ; simp only [Try.underlying3, Try.underlying4, Try.underlying5, Try.underlying9, Try.underlying29, Try.underlying57, Try.underlying55, j_one, j_side, j_tl, j_fl, nod_nod, nod_imm, nod_ints, nd_no, nd_own, nd_full, nd_fO, oF_ap, oF_succ, nod_sl, nod_ptr, nod_cptr, nod_fn, nod_junk, nodL_imm, nod_agg, nod_tup, nod2_imm, nod2_agg, cl_imm, cl_ints, cl_agg, e_add, e_sub, e_mul, e_quo, e_rem, e_eql, e_neq, e_lss, e_leq, e_gtr, e_geq, e_beq, e_bne, e_neg, e_not, e_pick, e_cond, e_gT, e_gF, e_len, e_lenA, e_lenS, e_ix, e_ixS, e_ldc, e_ldci, e_fa, rep_cl, rep_I, e_bx, okE_I, okE_B, okE_E8, okE_ints, stV_imm, stV_ints, j_and', j_or', List.getD_cons_zero, List.getD_cons_succ, List.map_cons, List.map_nil, decide_eq_true_eq, Int.toNat_natCast, Nat.mul_one, Nat.zero_add, true_and, and_true, List.length_map, Bool.not_eq_true', decide_eq_false_iff_not, nod_lists, e_lenL, e_ixL, okE_lists, bs1, bs1L, bs2L, e_app, e_appL, e_app0, e_app0L, e_slcLo, e_slcHi, e_slcLH, e_slcHH, e_slcLHH, e_callG, e_callY, e_calmG, e_slS0, e_slSLo, e_slSHi, e_slSLH, e_slSHH, e_slSLHH, e_max2, e_min2, e_max3, e_x20, e_x21, e_x30, e_x31, e_x32, nod2_ints, nod2_lists, rep_fl, bs0, e_nilE, if_true, if_false, cond_true, cond_false, decide_true, decide_false, eq_self, Bool.false_eq_true, false_implies, true_implies, ap_own, ap_full, e_slcLoL, e_slcHiL, e_slcLHL, hp_assoc, hp_cons, hp_nil, hp_len, hp_len_cons, hp_len_nil, lv_cons, lv_nil, vs_0, vs_s, spl_s, spl_0, spl_n, dr_s, dr_0, tk_s, tk_0, e_bxI, e_fac, e_facA, e_ldcA, e_ldcL, e_ldcF, okE_agg, ck_I, ck_B, ck_ints, ck_lists, ck_arr, ck_ptr, ck_cptr, ck_fn, all_c, all_n, stV_agg, stV_lists, stV_arr, stV_ptr, stV_cptr, stV_fn, nodL_ints, nodL_lists, nodL_ptr, nodL_cptr, nodL_fn, nodL_arr0, cl_arr, cl_ptr, cl_cptr, cl_fn, cl_lists, okE_arr, okE_fn, okE_ptr, okE_cptr, e_bd0, e_bd1, e_wr, Nat.reduceAdd, Nat.reduceLeDiff, Nat.reduceEqDiff, Nat.add_zero, Bool.and_self, Bool.true_and, Bool.and_true, e_lc0, e_lA0, e_lM0, e_sc0, e_rc0, e_rA0, e_lI0, e_sI0, e_cI0, e_lc1, e_lA1, e_lM1, e_sc1, e_rc1, e_rA1, e_lI1, e_sI1, e_cI1, e_lc2, e_lA2, e_lM2, e_sc2, e_rc2, e_rA2, e_lI2, e_sI2, e_cI2, e_lc3, e_lA3, e_lM3, e_sc3, e_rc3, e_rA3, e_lI3, e_sI3, e_cI3, e_lc4, e_lA4, e_lM4, e_sc4, e_rc4, e_rA4, e_lI4, e_sI4, e_cI4, e_lc5, e_lA5, e_lM5, e_sc5, e_rc5, e_rA5, e_lI5, e_sI5, e_cI5, own0_arr, own0_ints, own0_lists, own0_imm, own0_ptr, own0_cptr, own0_fn, own0_agg, e_appB, e_appB0, ck_sl, own0_sl, stV_sl, nodL_sl, cl_sl, okE_sl, e_mkM, e_mkI, e_mkIm, e_callB, nod_bfn, nod_ifc, nod_map, nodL_ifc, nodL_bfn, nodL_map, cl_ifc, cl_bfn, ck_ifc, ck_bfn, ck_map, stV_ifc, okE_ifc, okE_bfn, nod_arr, nodL_arr, e_addU, e_mulU, e_shrK, e_shlK, e_andK, e_cv64, e_cv32, e_callEG, e_callEY, e_callEB, e_zr, e_nilSl, e_ncP, e_ncC, e_npnP, e_npeP, e_npnC, e_npeC, e_npnN, e_npeN, e_ixAP, e_ldcP, e_ldcS, e_ldcV, e_ldcT, okE_nilP, ck_nilP, okE_nilI, ck_nilI, okE_str, ck_str, e_tlen, e_tix, e_teq, e_tne, e_tadd, e_tb, e_u8lss, e_u8gtr, noV_full, nod_arr, List.length_map, reduceIte, Int.reduceEq, Int.reduceNeg, ne_eq, not_true_eq_false, not_false_eq_true, Bool.not_true, Bool.not_false, Bool.true_or, Bool.or_true, Bool.false_or, Bool.or_false, Bool.and_true, Bool.and_false, Bool.false_and, Bool.not_not, Bool.or_self, List.length_nil, Int.ofNat_zero, Int.cast_ofNat_Int, Int.natCast_zero, beq_self_eq_true, Bool.true_eq_false]; subst hK hQ) | refine Jr.go ?_) | refine sd ?_)
      exact end1 (fzI _)
    · repeat (first | (with_reducible first | refine Ju.go ?_ | (refine Hd.go ?_; intro K Q hK hQ; simp only [nod_imm, e_not, Bool.not_true, nod_cptr, Try.underlying3, e_fac, Nat.zero_add, lv_cons, List.length_nil, Nat.reduceAdd, Nat.reduceLeDiff, List.getD_cons_zero, e_ldc, e_gtr, h3, decide_false, true_and, e_gF, cond_false, j_one, Try.underlying29, e_ldcA, nod_agg, List.map_cons, nodL_imm, List.map_nil, nodL_arr, nd_no]; subst hK hQ) | refine Jr.go ?_) | refine sd ?_)
      refine call_of (c22 s n t g k true _ sm) ?_
      rw [rfE_sc]
      by_cases he : scE [s] n t g k = 0
      · obtain ⟨ho, n0, n2⟩ := scE_0 he
        rw [he]
        by_cases hm0 : m < 0
        · repeat (first | (with_reducible first | refine Ju.go ?_ | (refine Hd.go ?_; intro K Q hK hQ; simp only [nod_imm, e_neq, decide_true, Bool.not_true, Try.underlying3, e_lss, hm0, e_gF, cond_false, j_one, nod_cptr, e_fac, Nat.zero_add, lv_cons, List.length_nil, Nat.reduceAdd, Nat.reduceLeDiff, List.getD_cons_zero, e_ldc, e_gtr, true_and, cond_true, List.getD_cons_succ, e_cond, if_true]; subst hK hQ) | refine Jr.go ?_) | refine sd ?_)
          refine call_of (c15 _) ?_
          repeat (first | (with_reducible first | refine Ju.go ?_ | (refine Hd.go ?_; intro K Q hK hQ; simp only [Try.underlying3, Try.underlying4, Try.underlying5, Try.underlying9, Try.underlying29, Try.underlying57, Try.underlying55, j_one, j_side, j_tl, j_fl, nod_nod, nod_imm, nod_ints, nd_no, nd_own, nd_full, nd_fO, oF_ap, oF_succ, nod_sl, nod_ptr, nod_cptr, nod_fn, nod_junk, nodL_imm, nod_agg, nod_tup, nod2_imm, nod2_agg, cl_imm, cl_ints, cl_agg, e_add, e_sub, e_mul, e_quo, e_rem, e_eql, e_neq, e_lss, e_leq, e_gtr, e_geq, e_beq, e_bne, e_neg, e_not, e_pick, e_cond, e_gT, e_gF, e_len, e_lenA, e_lenS, e_ix, e_ixS, e_ldc, e_ldci, e_fa, rep_cl, rep_I, e_bx, okE_I, okE_B, okE_E8, okE_ints, stV_imm, stV_ints, j_and', j_or', List.getD_cons_zero, List.getD_cons_succ, List.map_cons, List.map_nil, decide_eq_true_eq, Int.toNat_natCast, Nat.mul_one, Nat.zero_add, true_and, and_true, List.length_map, Bool.not_eq_true', decide_eq_false_iff_not, nod_lists, e_lenL, e_ixL, okE_lists, bs1, bs1L, bs2L, e_app, e_appL, e_app0, e_app0L, e_slcLo, e_slcHi, e_slcLH, e_slcHH, e_slcLHH, e_callG, e_callY, e_calmG, e_slS0, e_slSLo, e_slSHi, e_slSLH, e_slSHH, e_slSLHH, e_max2, e_min2, e_max3, e_x20, e_x21, e_x30, e_x31, e_x32, nod2_ints, nod2_lists, rep_fl, bs0, e_nilE, if_true, if_false, cond_true, cond_false, decide_true, decide_false, eq_self, Bool.false_eq_true, false_implies, true_implies, ap_own, ap_full, e_slcLoL, e_slcHiL, e_slcLHL, hp_assoc, hp_cons, hp_nil, hp_len, hp_len_cons, hp_len_nil, lv_cons, lv_nil, vs_0, vs_s, spl_s, spl_0, spl_n, dr_s, dr_0, tk_s, tk_0, e_bxI, e_fac, e_facA, e_ldcA, e_ldcL, e_ldcF, okE_agg, ck_I, ck_B, ck_ints, ck_lists, ck_arr, ck_ptr, ck_cptr, ck_fn, all_c, all_n, stV_agg, stV_lists, stV_arr, stV_ptr, stV_cptr, stV_fn, nodL_ints, nodL_lists, nodL_ptr, nodL_cptr, nodL_fn, nodL_arr0, cl_arr, cl_ptr, cl_cptr, cl_fn, cl_lists, okE_arr, okE_fn, okE_ptr, okE_cptr, e_bd0, e_bd1, e_wr, Nat.reduceAdd, Nat.reduceLeDiff, Nat.reduceEqDiff, Nat.add_zero, Bool.and_self, Bool.true_and, Bool.and_true, e_lc0, e_lA0, e_lM0, e_sc0, e_rc0, e_rA0, e_lI0, e_sI0, e_cI0, e_lc1, e_lA1, e_lM1, e_sc1, e_rc1, e_rA1, e_lI1, e_sI1, e_cI1, e_lc2, e_lA2, e_lM2, e_sc2, e_rc2, e_rA2, e_lI2, e_sI2, e_cI2, e_lc3, e_lA3, e_lM3, e_sc3, e_rc3, e_rA3, e_lI3, e_sI3, e_cI3, e_lc4, e_lA4, e_lM4, e_sc4, e_rc4, e_rA4, e_lI4, e_sI4, e_cI4, e_lc5, e_lA5, e_lM5, e_sc5, e_rc5, e_rA5, e_lI5, e_sI5, e_cI5, own0_arr, own0_ints, own0_lists, own0_imm, own0_ptr, own0_cptr, own0_fn, own0_agg, e_appB, e_appB0, ck_sl, own0_sl, stV_sl, nodL_sl, cl_sl, okE_sl, e_mkM, e_mkI, e_mkIm, e_callB, nod_bfn, nod_ifc, nod_map, nodL_ifc, nodL_bfn, nodL_map, cl_ifc, cl_bfn, ck_ifc, ck_bfn, ck_map, stV_ifc, okE_ifc, okE_bfn, nod_arr, nodL_arr, e_addU, e_mulU, e_shrK, e_shlK, e_andK, e_cv64, e_cv32, e_callEG, e_callEY, e_callEB, e_zr, e_nilSl, e_ncP, e_ncC, e_npnP, e_npeP, e_npnC, e_npeC, e_npnN, e_npeN, e_ixAP, e_ldcP, e_ldcS, e_ldcV, e_ldcT, okE_nilP, ck_nilP, okE_nilI, ck_nilI, okE_str, ck_str, e_tlen, e_tix, e_teq, e_tne, e_tadd, e_tb, e_u8lss, e_u8gtr, noV_full, nod_arr, List.length_map, reduceIte, Int.reduceEq, Int.reduceNeg, ne_eq, not_true_eq_false, not_false_eq_true, Bool.not_true, Bool.not_false, Bool.true_or, Bool.or_true, Bool.false_or, Bool.or_false, Bool.and_true, Bool.and_false, Bool.false_and, Bool.not_not, Bool.or_self, List.length_nil, Int.ofNat_zero, Int.cast_ofNat_Int, Int.natCast_zero, beq_self_eq_true, Bool.true_eq_false]; subst hK hQ) | refine Jr.go ?_) | refine sd ?_)
          exact end1 (fzI _)
        by_cases hm1 : n < m
        · repeat (first | (with_reducible first | refine Ju.go ?_ | (refine Hd.go ?_; intro K Q hK hQ; simp only [nod_imm, e_neq, decide_true, Bool.not_true, Try.underlying3, e_lss, hm0, decide_false, e_gF, cond_false, j_one, nod_cptr, e_fac, Nat.zero_add, lv_cons, List.length_nil, Nat.reduceAdd, Nat.reduceLeDiff, List.getD_cons_zero, e_ldc, e_gtr, hm1, true_and, List.getD_cons_succ, e_cond, if_true]; subst hK hQ) | refine Jr.go ?_) | refine sd ?_)
          refine call_of (c15 _) ?_
          repeat (first | (with_reducible first | refine Ju.go ?_ | (refine Hd.go ?_; intro K Q hK hQ; simp only [Try.underlying3, Try.underlying4, Try.underlying5, Try.underlying9, Try.underlying29, Try.underlying57, Try.underlying55, j_one, j_side, j_tl, j_fl, nod_nod, nod_imm, nod_ints, nd_no, nd_own, nd_full, nd_fO, oF_ap, oF_succ, nod_sl, nod_ptr, nod_cptr, nod_fn, nod_junk, nodL_imm, nod_agg, nod_tup, nod2_imm, nod2_agg, cl_imm, cl_ints, cl_agg, e_add, e_sub, e_mul, e_quo, e_rem, e_eql, e_neq, e_lss, e_leq, e_gtr, e_geq, e_beq, e_bne, e_neg, e_not, e_pick, e_cond, e_gT, e_gF, e_len, e_lenA, e_lenS, e_ix, e_ixS, e_ldc, e_ldci, e_fa, rep_cl, rep_I, e_bx, okE_I, okE_B, okE_E8, okE_ints, stV_imm, stV_ints, j_and', j_or', List.getD_cons_zero, List.getD_cons_succ, List.map_cons, List.map_nil, decide_eq_true_eq, Int.toNat_natCast, Nat.mul_one, Nat.zero_add, true_and, and_true, List.length_map, Bool.not_eq_true', decide_eq_false_iff_not, nod_lists, e_lenL, e_ixL, okE_lists, bs1, bs1L, bs2L, e_app, e_appL, e_app0, e_app0L, e_slcLo, e_slcHi, e_slcLH, e_slcHH, e_slcLHH, e_callG, e_callY, e_calmG, e_slS0, e_slSLo, e_slSHi, e_slSLH, e_slSHH, e_slSLHH, e_max2, e_min2, e_max3, e_x20, e_x21, e_x30, e_x31, e_x32, nod2_ints, nod2_lists, rep_fl, bs0, e_nilE, if_true, if_false, cond_true, cond_false, decide_true, decide_false, eq_self, Bool.false_eq_true, false_implies, true_implies, ap_own, ap_full, e_slcLoL, e_slcHiL, e_slcLHL, hp_assoc, hp_cons, hp_nil, hp_len, hp_len_cons, hp_len_nil, lv_cons, lv_nil, vs_0, vs_s, spl_s, spl_0, spl_n, dr_s, dr_0, tk_s, tk_0, e_bxI, e_fac, e_facA, e_ldcA, e_ldcL, e_ldcF, okE_agg, ck_I, ck_B, ck_ints, ck_lists, ck_arr, ck_ptr, ck_cptr, ck_fn, all_c, all_n, stV_agg, stV_lists, stV_arr, stV_ptr, stV_cptr, stV_fn, nodL_ints, nodL_lists, nodL_ptr, nodL_cptr, nodL_fn, nodL_arr0, cl_arr, cl_ptr, cl_cptr, cl_fn, cl_lists, okE_arr, okE_fn, okE_ptr, okE_cptr, e_bd0, e_bd1, e_wr, Nat.reduceAdd, Nat.reduceLeDiff, Nat.reduceEqDiff, Nat.add_zero, Bool.and_self, Bool.true_and, Bool.and_true, e_lc0, e_lA0, e_lM0, e_sc0, e_rc0, e_rA0, e_lI0, e_sI0, e_cI0, e_lc1, e_lA1, e_lM1, e_sc1, e_rc1, e_rA1, e_lI1, e_sI1, e_cI1, e_lc2, e_lA2, e_lM2, e_sc2, e_rc2, e_rA2, e_lI2, e_sI2, e_cI2, e_lc3, e_lA3, e_lM3, e_sc3, e_rc3, e_rA3, e_lI3, e_sI3, e_cI3, e_lc4, e_lA4, e_lM4, e_sc4, e_rc4, e_rA4, e_lI4, e_sI4, e_cI4, e_lc5, e_lA5, e_lM5, e_sc5, e_rc5, e_rA5, e_lI5, e_sI5, e_cI5, own0_arr, own0_ints, own0_lists, own0_imm, own0_ptr, own0_cptr, own0_fn, own0_agg, e_appB, e_appB0, ck_sl, own0_sl, stV_sl, nodL_sl, cl_sl, okE_sl, e_mkM, e_mkI, e_mkIm, e_callB, nod_bfn, nod_ifc, nod_map, nodL_ifc, nodL_bfn, nodL_map, cl_ifc, cl_bfn, ck_ifc, ck_bfn, ck_map, stV_ifc, okE_ifc, okE_bfn, nod_arr, nodL_arr, e_addU, e_mulU, e_shrK, e_shlK, e_andK, e_cv64, e_cv32, e_callEG, e_callEY, e_callEB, e_zr, e_nilSl, e_ncP, e_ncC, e_npnP, e_npeP, e_npnC, e_npeC, e_npnN, e_npeN, e_ixAP, e_ldcP, e_ldcS, e_ldcV, e_ldcT, okE_nilP, ck_nilP, okE_nilI, ck_nilI, okE_str, ck_str, e_tlen, e_tix, e_teq, e_tne, e_tadd, e_tb, e_u8lss, e_u8gtr, noV_full, nod_arr, List.length_map, reduceIte, Int.reduceEq, Int.reduceNeg, ne_eq, not_true_eq_false, not_false_eq_true, Bool.not_true, Bool.not_false, Bool.true_or, Bool.or_true, Bool.false_or, Bool.or_false, Bool.and_true, Bool.and_false, Bool.false_and, Bool.not_not, Bool.or_self, List.length_nil, Int.ofNat_zero, Int.cast_ofNat_Int, Int.natCast_zero, beq_self_eq_true, Bool.true_eq_false]; subst hK hQ) | refine Jr.go ?_) | refine sd ?_)
          exact end1 (fzI _)
        have et := tw_eq sm ho (n.toNat + 1) (by omega)
        have hl := twR_len s t g k (n.toNat + 1)
        have hom := okAsk_le ho (show 0 ≤ m by omega) (show m ≤ n by omega)
        have hmem := twR_mem (s := s) (t := t) (g := g) (k := k) (n.toNat + 1)
        have hone := fun ha => rd_one (s := s) (n := n) (t := t) (g := g) (k := k) (show 0 ≤ m by omega) (show m ≤ n by omega) ha
        have c37' := c37 s n t g k
        rw [he, if_pos rfl, et] at c37'
        generalize twR s t g k (n.toNat + 1) = l at *
        repeat (first | (with_reducible first | refine Ju.go ?_ | (refine Hd.go ?_; intro K Q hK hQ; simp only [nod_imm, e_neq, decide_true, Bool.not_true, Try.underlying3, e_lss, hm0, decide_false, e_gF, cond_false, j_one, nod_cptr, e_fac, Nat.zero_add, lv_cons, List.length_nil, Nat.reduceAdd, Nat.reduceLeDiff, List.getD_cons_zero, e_ldc, e_gtr, hm1, true_and, List.getD_cons_succ, e_cond, Bool.false_eq_true, if_false, e_ldcA, nod_agg, List.map_cons, nodL_imm, nodL_arr, nd_no, List.map_nil]; subst hK hQ) | refine Jr.go ?_) | refine sd ?_)
        refine call_of (c37' _ sm) ?_
        repeat (first | (with_reducible first | refine Ju.go ?_ | (refine Hd.go ?_; intro K Q hK hQ; simp only [nod_tup, List.map_cons, nod2_arr, nd_no, nod2_imm, List.map_nil, e_x20, e_x21, List.getD_cons_succ, List.getD_cons_zero, nod_cptr, e_ldcA, lv_cons, List.length_nil, Nat.zero_add, Nat.reduceAdd, true_and, e_bx, okE_agg, all_c, ck_I, all_n, Bool.and_self, and_true, cl_agg, nod_ptr, e_sc0, Nat.reduceLeDiff, stV_agg, nodL_imm, spl_0, spl_n, e_fa, Nat.add_zero, nod_imm, stV_imm, okE_I, cl_imm, e_lA0, dr_0, tk_s, tk_0, nod_agg, nodL_arr]; subst hK hQ) | refine Jr.go ?_) | refine sd ?_)
        refine call_of (c20 s m t g k _ sm) ?_
        rw [spE_ok hom, spL_ok hom, tx_tb]
        generalize hfe : (if (saW s m t g k).all gdW = true then (0 : Int) else 5) = fe
        repeat (first | (with_reducible first | refine Ju.go ?_ | (refine Hd.go ?_; intro K Q hK hQ; simp only [nod_tup, List.map_cons, nod2_arr, nd_no, nod2_imm, List.map_nil, e_x20, e_x21, List.getD_cons_succ, List.getD_cons_zero, nod_imm, Try.underlying29, e_neq, decide_true, Bool.not_true, e_cond, Bool.false_eq_true, if_false]; subst hK hQ) | refine Jr.go ?_) | refine sd ?_)
        refine loop_of (fun z : Nat × Int => z.1 ≤ l.length) (fun z => [I m, .cptr (syV s), .cptr (asV n t g k), .arr (l.map twV) .no, .ptr H.length 0, .arr (((trW s m t g k).map Sd.x).map tb) .no, I fe, I z.1]) (fun z => H ++ [.cells [I z.2, I t, I g, I k]]) (fun z => l.length - z.1) (0, m) (Nat.zero_le _) rfl rfl ?_
        intro ⟨i, x⟩ hi
        dsimp only at hi ⊢
        repeat (first | (with_reducible first | refine Ju.go ?_ | (refine Hd.go ?_; intro K Q hK hQ; simp only [List.getD_cons_succ, List.getD_cons_zero, nod_arr, nd_no, e_lenA, List.length_map, nod_imm, Try.underlying3, e_lss, e_cond, decide_eq_true_eq]; subst hK hQ) | refine Jr.go ?_) | refine sd ?_)
        by_cases hlt : i < l.length
        · have d : (i : Int) < l.length := by omega
          obtain ⟨j, j1, j2, j3, j4⟩ := (hmem _).1 (getD_memA l (0, 0) hlt)
          obtain ⟨f0, f1, f2, f3, -⟩ := frN_spec (show (0 : Int) ≤ j by omega) j2
          have oj := okAsk_le ho (show (0 : Int) ≤ j by omega) (by omega)
          have of' := okAsk_le ho f0 (by omega)
          have c1 := c20 s (frN s t g k j) t g k
          have c2 := c20 s j t g k
          have hlen := trW_len sm of'
          rw [spE_ok of', if_pos f2, spL_ok of', tx_tb] at c1
          rw [spE_ok oj, if_pos j2, spL_ok oj, tx_tb] at c2
          have f3' : (trW s (frN s t g k j) t g k).map Sd.x = (trW s j t g k).map Sd.x := f3
          rw [f3'] at c1
          have g1 : (l.getD i (0, 0)).1 = frN s t g k j := by rw [j4]
          have g2 : (l.getD i (0, 0)).2 = j := by rw [j4]
          have lx : ((trW s j t g k).map Sd.x).length ≤ 800 := by rw [← f3', List.length_map]; exact hlen
          have j3' : ¬ (j : Int) ≤ frN s t g k j := by omega
          generalize frN s t g k j = fr at *
          repeat (first | (with_reducible first | refine Ju.go ?_ | (refine Hd.go ?_; intro K Q hK hQ; simp only [d, if_true, List.getD_cons_succ, List.getD_cons_zero, nod_arr, nd_no, nod_imm, ix_tw, Int.toNat_natCast, true_and, nod_cptr, e_fac, Nat.zero_add, g1, g2, lv_cons, List.length_nil, Nat.reduceAdd, Nat.reduceLeDiff, e_ldc, nod_ptr, e_fa, Nat.add_zero, e_sc0, stV_imm, okE_I, cl_imm, spl_0, spl_n, e_ldcA, e_lA0, dr_0, tk_s, tk_0, nod_agg, List.map_cons, nodL_imm, List.map_nil, nodL_arr]; subst hK hQ) | refine Jr.go ?_) | refine sd ?_)
          refine call_of (c1 _ sm) ?_
          repeat (first | (with_reducible first | refine Ju.go ?_ | (refine Hd.go ?_; intro K Q hK hQ; simp only [nod_tup, List.map_cons, nod2_arr, nd_no, nod2_imm, List.map_nil, e_x20, e_x21, List.getD_cons_zero, List.getD_cons_succ, nod_arr, nod_imm, ix_tw, d, Int.toNat_natCast, true_and, nod_cptr, e_fac, Nat.reduceAdd, g1, g2, lv_cons, List.length_nil, Nat.zero_add, Nat.reduceLeDiff, e_ldc, nod_ptr, e_fa, Nat.add_zero, e_sc0, stV_imm, okE_I, cl_imm, spl_0, spl_n, e_ldcA, e_lA0, dr_0, tk_s, tk_0, nod_agg, nodL_imm, nodL_arr]; subst hK hQ) | refine Jr.go ?_) | refine sd ?_)
          refine call_of (c2 _ sm) ?_
          repeat (first | (with_reducible first | refine Ju.go ?_ | (refine Hd.go ?_; intro K Q hK hQ; simp only [nod_tup, List.map_cons, nod2_arr, nd_no, nod2_imm, List.map_nil, e_x20, e_x21, List.getD_cons_zero, List.getD_cons_succ, nod_imm, Try.underlying29, e_neq, decide_true, Bool.not_true, e_gF, cond_false, j_one, nod_arr]; subst hK hQ) | refine Jr.go ?_) | refine sd ?_)
          refine call_ofD (c25 _ _ _ (by omega)) ?_
          rw [decide_eq_true rfl]
          repeat (first | (with_reducible first | refine Ju.go ?_ | (refine Hd.go ?_; intro K Q hK hQ; simp only [nod_imm, e_not, Bool.not_true, List.getD_cons_succ, List.getD_cons_zero, nod_arr, nd_no, Try.underlying3, ix_tw, d, Int.toNat_natCast, nod_cptr, e_fac, Nat.reduceAdd, g1, g2, lv_cons, List.length_nil, Nat.zero_add, Nat.reduceLeDiff, e_ldc, true_and, e_geq, j3', decide_false, e_gF, cond_false, j_side, j_one, e_cond, Bool.false_eq_true, if_false, e_add]; subst hK hQ) | refine Jr.go ?_) | refine sd ?_)
          exact ⟨(i + 1, j), by dsimp only; omega, rfl, rfl, by dsimp only; omega⟩
        · have d : ¬ (i : Int) < l.length := by omega
          cases hg : (saW s m t g k).all gdW
          · rw [hg, if_neg (by decide)] at hfe
            subst hfe
            repeat (first | (with_reducible first | refine Ju.go ?_ | (refine Hd.go ?_; intro K Q hK hQ; simp only [d, if_false, List.getD_cons_succ, List.getD_cons_zero, nod_imm, Try.underlying29, e_neq, Int.reduceEq, decide_false, Bool.not_false, e_cond, if_true, e_eql, decide_true, e_gT, cond_true]; subst hK hQ) | refine Jr.go ?_) | refine sd ?_)
            refine call_of (c15 _) ?_
            repeat (first | (with_reducible first | refine Ju.go ?_ | (refine Hd.go ?_; intro K Q hK hQ; simp only [nod_imm]; subst hK hQ) | refine Jr.go ?_) | refine sd ?_)
            exact end1A (fzI _)
          · rw [hg, if_pos rfl] at hfe
            subst hfe
            have hmm : isR s t g k ((trW s m t g k).map Sd.x) m = true := isR_iff.2 ⟨hg, rfl⟩
            obtain ⟨-, -, -, hne, -⟩ := rdL_head (s := s) (t := t) (g := g) (k := k) (l := (trW s m t g k).map Sd.x) n0 ⟨m, by omega, by omega, hmm⟩
            have e3 : rdE s n t g k ((trW s m t g k).map Sd.x) = 0 := by unfold rdE; rw [if_neg (fun h => h he), if_neg hne]
            have e4 : rdR s n t g k ((trW s m t g k).map Sd.x) = rdL s n t g k ((trW s m t g k).map Sd.x) := by unfold rdR; rw [if_neg (fun h => h he)]
            have hr2 : (rdL s n t g k ((trW s m t g k).map Sd.x)).length ≤ n.toNat + 1 := rd_len s t g k _ (n.toNat + 1)
            have h1 : l = [] → rdL s n t g k ((trW s m t g k).map Sd.x) = [m] := fun h => hone hg h
            repeat (first | (with_reducible first | refine Ju.go ?_ | (refine Hd.go ?_; intro K Q hK hQ; simp only [d, if_false, List.getD_cons_succ, List.getD_cons_zero, nod_imm, Try.underlying29, e_neq, decide_true, Bool.not_true, e_cond, Bool.false_eq_true, nod_cptr, e_ldcA, lv_cons, List.length_nil, Nat.zero_add, Nat.reduceAdd, true_and, nod_agg, List.map_cons, nodL_imm, nodL_arr, nd_no, List.map_nil, nod_arr]; subst hK hQ) | refine Jr.go ?_) | refine sd ?_)
            refine call_of (c27 s n t g k _ _ sm) ?_
            rw [e3, e4]
            generalize rdL s n t g k ((trW s m t g k).map Sd.x) = rl at *
            by_cases hl0 : 0 < (l.length : Int)
            · repeat (first | (with_reducible first | refine Ju.go ?_ | (refine Hd.go ?_; intro K Q hK hQ; simp only [nod_tup, List.map_cons, nod2_ints, nd_no, nod2_imm, List.map_nil, e_x20, e_x21, nod_imm, Try.underlying29, e_eql, decide_true, List.getD_cons_succ, List.getD_cons_zero, nod_arr, Try.underlying3, bs1, nod_ints, nd_full, nod_nod, e_lenA, List.length_map, e_gtr, hl0, e_gF, cond_true, true_and, e_gT, j_one]; subst hK hQ) | refine Jr.go ?_) | refine sd ?_)
              refine call_of (c15 _) ?_
              repeat (first | (with_reducible first | refine Ju.go ?_ | (refine Hd.go ?_; intro K Q hK hQ; simp only [nod_imm]; subst hK hQ) | refine Jr.go ?_) | refine sd ?_)
              exact end1A (fzI _)
            · have hle : l = [] := List.length_eq_zero_iff.1 (by omega)
              obtain rfl := h1 hle
              repeat (first | (with_reducible first | refine Ju.go ?_ | (refine Hd.go ?_; intro K Q hK hQ; simp only [nod_tup, List.map_cons, nod2_ints, nd_no, nod2_imm, List.map_nil, e_x20, e_x21, nod_imm, Try.underlying29, e_eql, decide_true, List.getD_cons_succ, List.getD_cons_zero, nod_arr, Try.underlying3, bs1, nod_ints, nd_full, nod_nod, e_lenA, List.length_map, e_gtr, hl0, decide_false, e_gF, cond_false, true_and, e_gT, cond_true]; subst hK hQ) | refine Jr.go ?_) | refine sd ?_)
              refine call_wk (c29 [m] [m] _ (by simp)) (.cons (.refl _) (.cons (.full [I m]) .nil)) ?_
              rw [decide_eq_true rfl]
              repeat (first | (with_reducible first | refine Ju.go ?_ | (refine Hd.go ?_; intro K Q hK hQ; simp only [nod_imm, e_gT, cond_true]; subst hK hQ) | refine Jr.go ?_) | refine sd ?_)
              refine call_of (c15 _) ?_
              repeat (first | (with_reducible first | refine Ju.go ?_ | (refine Hd.go ?_; intro K Q hK hQ; simp only [nod_imm]; subst hK hQ) | refine Jr.go ?_) | refine sd ?_)
              exact end1A (fzI _)
      · generalize scE [s] n t g k = e at *
        repeat (first | (with_reducible first | refine Ju.go ?_ | (refine Hd.go ?_; intro K Q hK hQ; simp only [nod_imm, e_neq, he, decide_false, Bool.not_false, Try.underlying3, e_lss, e_gF, cond_true, j_one, nod_cptr, e_fac, Nat.zero_add, lv_cons, List.length_nil, Nat.reduceAdd, Nat.reduceLeDiff, List.getD_cons_zero, e_ldc, e_gtr, true_and, List.getD_cons_succ, e_cond, if_true]; subst hK hQ) | refine Jr.go ?_) | refine sd ?_)
        refine call_of (c15 _) ?_
        repeat (first | (with_reducible first | refine Ju.go ?_ | (refine Hd.go ?_; intro K Q hK hQ; simp only [Try.underlying3, Try.underlying4, Try.underlying5, Try.underlying9, Try.underlying29, Try.underlying57, Try.underlying55, j_one, j_side, j_tl, j_fl, nod_nod, nod_imm, nod_ints, nd_no, nd_own, nd_full, nd_fO, oF_ap, oF_succ, nod_sl, nod_ptr, nod_cptr, nod_fn, nod_junk, nodL_imm, nod_agg, nod_tup, nod2_imm, nod2_agg, cl_imm, cl_ints, cl_agg, e_add, e_sub, e_mul, e_quo, e_rem, e_eql, e_neq, e_lss, e_leq, e_gtr, e_geq, e_beq, e_bne, e_neg, e_not, e_pick, e_cond, e_gT, e_gF, e_len, e_lenA, e_lenS, e_ix, e_ixS, e_ldc, e_ldci, e_fa, rep_cl, rep_I, e_bx, okE_I, okE_B, okE_E8, okE_ints, stV_imm, stV_ints, j_and', j_or', List.getD_cons_zero, List.getD_cons_succ, List.map_cons, List.map_nil, decide_eq_true_eq, Int.toNat_natCast, Nat.mul_one, Nat.zero_add, true_and, and_true, List.length_map, Bool.not_eq_true', decide_eq_false_iff_not, nod_lists, e_lenL, e_ixL, okE_lists, bs1, bs1L, bs2L, e_app, e_appL, e_app0, e_app0L, e_slcLo, e_slcHi, e_slcLH, e_slcHH, e_slcLHH, e_callG, e_callY, e_calmG, e_slS0, e_slSLo, e_slSHi, e_slSLH, e_slSHH, e_slSLHH, e_max2, e_min2, e_max3, e_x20, e_x21, e_x30, e_x31, e_x32, nod2_ints, nod2_lists, rep_fl, bs0, e_nilE, if_true, if_false, cond_true, cond_false, decide_true, decide_false, eq_self, Bool.false_eq_true, false_implies, true_implies, ap_own, ap_full, e_slcLoL, e_slcHiL, e_slcLHL, hp_assoc, hp_cons, hp_nil, hp_len, hp_len_cons, hp_len_nil, lv_cons, lv_nil, vs_0, vs_s, spl_s, spl_0, spl_n, dr_s, dr_0, tk_s, tk_0, e_bxI, e_fac, e_facA, e_ldcA, e_ldcL, e_ldcF, okE_agg, ck_I, ck_B, ck_ints, ck_lists, ck_arr, ck_ptr, ck_cptr, ck_fn, all_c, all_n, stV_agg, stV_lists, stV_arr, stV_ptr, stV_cptr, stV_fn, nodL_ints, nodL_lists, nodL_ptr, nodL_cptr, nodL_fn, nodL_arr0, cl_arr, cl_ptr, cl_cptr, cl_fn, cl_lists, okE_arr, okE_fn, okE_ptr, okE_cptr, e_bd0, e_bd1, e_wr, Nat.reduceAdd, Nat.reduceLeDiff, Nat.reduceEqDiff, Nat.add_zero, Bool.and_self, Bool.true_and, Bool.and_true, e_lc0, e_lA0, e_lM0, e_sc0, e_rc0, e_rA0, e_lI0, e_sI0, e_cI0, e_lc1, e_lA1, e_lM1, e_sc1, e_rc1, e_rA1, e_lI1, e_sI1, e_cI1, e_lc2, e_lA2, e_lM2, e_sc2, e_rc2, e_rA2, e_lI2, e_sI2, e_cI2, e_lc3, e_lA3, e_lM3, e_sc3, e_rc3, e_rA3, e_lI3, e_sI3, e_cI3, e_lc4, e_lA4, e_lM4, e_sc4, e_rc4, e_rA4, e_lI4, e_sI4, e_cI4, e_lc5, e_lA5, e_lM5, e_sc5, e_rc5, e_rA5, e_lI5, e_sI5, e_cI5, own0_arr, own0_ints, own0_lists, own0_imm, own0_ptr, own0_cptr, own0_fn, own0_agg, e_appB, e_appB0, ck_sl, own0_sl, stV_sl, nodL_sl, cl_sl, okE_sl, e_mkM, e_mkI, e_mkIm, e_callB, nod_bfn, nod_ifc, nod_map, nodL_ifc, nodL_bfn, nodL_map, cl_ifc, cl_bfn, ck_ifc, ck_bfn, ck_map, stV_ifc, okE_ifc, okE_bfn, nod_arr, nodL_arr, e_addU, e_mulU, e_shrK, e_shlK, e_andK, e_cv64, e_cv32, e_callEG, e_callEY, e_callEB, e_zr, e_nilSl, e_ncP, e_ncC, e_npnP, e_npeP, e_npnC, e_npeC, e_npnN, e_npeN, e_ixAP, e_ldcP, e_ldcS, e_ldcV, e_ldcT, okE_nilP, ck_nilP, okE_nilI, ck_nilI, okE_str, ck_str, e_tlen, e_tix, e_teq, e_tne, e_tadd, e_tb, e_u8lss, e_u8gtr, noV_full, nod_arr, List.length_map, reduceIte, Int.reduceEq, Int.reduceNeg, ne_eq, not_true_eq_false, not_false_eq_true, Bool.not_true, Bool.not_false, Bool.true_or, Bool.or_true, Bool.false_or, Bool.or_false, Bool.and_true, Bool.and_false, Bool.false_and, Bool.not_not, Bool.or_self, List.length_nil, Int.ofNat_zero, Int.cast_ofNat_Int, Int.natCast_zero, beq_self_eq_true, Bool.true_eq_false]; subst hK hQ) | refine Jr.go ?_) | refine sd ?_)
        exact end1 (fzI _)
end Go.Proofs.Ytgodfjbmblghnaa


set_option linter.unusedVariables false
set_option linter.unusedSimpArgs false
set_option linter.unnecessarySimpa false
set_option maxRecDepth 20000
set_option maxHeartbeats 2000000
namespace Go.Proofs.Ytgodfjbmblghnaa
open Go Go.Ab Go.Proofs
attribute [local congr] g_bin g_nilS g_nilP g_un g_ext g_bx g_fa g_ld g_st g_ix g_ixA g_slc g_mk g_bs g_bd g_nc g_cv g_len g_lenT g_app g_appB g_cpy g_mm g_call g_callG g_calm g_calmG g_range g_res g_pick g_cond g_loop g_Jv g_eqS g_eqP g_fd g_ixT g_ta g_lkp g_upd g_mkM g_appS g_inv g_callE g_callEG g_invE g_zr g_wr
open Go.ChangeShapes Go.WideShapes Go.ChangeAt Go.RowKit
theorem own : ownKnob Try.prog.godebug = none := by kernel_rfl
theorem laidOut : laidOutB Try.prog = true := by kernel_rfl
set_option maxRecDepth 100000 in
theorem lifted (os : Os) (started : os.Started) (H : Type) (enc : TypeId × Value → H) :
    ReturnsInHanded {} Try.checked os 11 .any (Rows.numeralAloneSpec.pre6 enc Try.prog Try.f11 Rows.numeralAloneRow.domain false) (Rows.numeralAloneSpec.post enc Try.prog Try.f11 false true false false) := by
  refine returnsInHanded_of_change (C := Try.checked) own started (by kernel_rfl) Try.func11
    (ChangeSpec.witness6 (enc := enc) (C := Try.checked) false ⟨#[], #[.agg #[.int .i64 0, .int .i64 0, .int .i64 0, .int .i64 0, .slice none 0 0, .slice none 0 0, .slice none 0 0], .agg #[.int .i64 0, .int .i64 0, .int .i64 0, .int .i64 0], .int .i64 0], []⟩ 8 (by kernel_rfl) (by kernel_rfl) (by kernel_rfl) (by kernel_rfl)) ?_
  intro W base args ds gs before hval0 hW hcnd _
  have hval : ∀ (j : Nat) t v, Try.f11.params[j]? = some t → args[j]? = some v → Value.okWide Try.prog W .any base t v := hval0
  have hW' := hW
  obtain ⟨p, q, hA0, hV, rfl, hfz, hnd⟩ := hW
  have hA : DataW.TrodAll enc Try.prog W 0 (fun _ => true) true Try.f11.params.toList args.toList ds p := hA0
  rw [Try.params11] at hA hval
  obtain ⟨v0, vs0, d0, ds0, p0, q0, hargs, rfl, rfl, h0, r0⟩ := trodAll_cons hA
  obtain ⟨v1, vs1, d1, ds1, p1, q1, rfl, rfl, rfl, h1, r1⟩ := trodAll_cons r0
  obtain ⟨v2, vs2, d2, ds2, p2, q2, rfl, rfl, rfl, h2, r2⟩ := trodAll_cons r1
  obtain ⟨rfl, rfl, rfl⟩ := trodAll_nil r2
  obtain rfl : args = #[v0, v1, v2] := by cases args; simp_all
  obtain ⟨rfl, rfl⟩ := trodVars_none hV
  have lt0 : ∀ x ∈ p0, x.block < W.heap.size := by obtain ⟨m, hm⟩ := h0; exact DataW.trod_lt m _ _ _ hm
  obtain ⟨l0, w0, e0⟩ := in_sys (hval 0 _ v0 rfl rfl) h0
  have lt1 : ∀ x ∈ p1, x.block < W.heap.size := by obtain ⟨m, hm⟩ := h1; exact DataW.trod_lt m _ _ _ hm
  obtain ⟨n1, t1, g1, k1, e1⟩ := in_ask (hval 1 _ v1 rfl rfl) h1
  have lt2 : ∀ x ∈ p2, x.block < W.heap.size := by obtain ⟨m, hm⟩ := h2; exact DataW.trod_lt m _ _ _ hm
  obtain ⟨n2, e2, w2⟩ := in_int Try.underlying3 (hval 2 _ v2 rfl rfl) h2
  clear hA0 hval0
  refine (bridge (args := [syV l0, asV n1 t1 g1 k1, I n2]) (ra := #[v0, v1, v2]) (c11 l0 n1 t1 g1 k1 n2 [] w0) rfl (by intro a ha; simp at ha; rcases ha with rfl | rfl | rfl <;> rfl) (fun i => ?_)).mono fun e W' ⟨he, bel⟩ => ?_
  · match i with
    | 0 => exact e0
    | 1 => exact e1
    | 2 => exact e2
    | i + 3 => exact .junk _
  · subst he
    exact ⟨_, rfl, _, _, _, [], _, [], hW', trodAll_mk1 (shut_bool Try.underlying4 _), (trodAll_cons_mk (Below.trod laidOut (by kernel_rfl) (of_decide_eq_true (by kernel_rfl)) h0 bel lt0) (trodAll_cons_mk (Below.trod laidOut (by kernel_rfl) (of_decide_eq_true (by kernel_rfl)) h1 bel lt1) (trodAll_cons_mk (Below.trod laidOut (by kernel_rfl) (of_decide_eq_true (by kernel_rfl)) h2 bel lt2) trodAll_mk0))), rfl, bel.frame _, fun h => by cases h⟩
theorem over : Rows.numeralAloneRow.holds Try.pinned (OpenSpec.ofChange Rows.numeralAloneSpec) :=
  OpenClaim.holds_of_wide 11 Try.f11 rfl rfl rfl rfl rfl rfl rfl ⟨rfl, rfl, rfl, rfl, rfl⟩ rfl rfl rfl rfl rfl (by kernel_rfl) Try.func11 (by kernel_rfl)
    (of_decide_eq_true (by kernel_rfl)) (by unfold Func.isWrapper; first | (rw [if_pos (by decide +kernel)]; kernel_rfl) | (rw [if_neg (by decide +kernel)]; exact ⟨rfl, rfl⟩))
    (fun os started H enc _ => lifted os started H enc)
theorem numeralAlone_holds : Rows.NumeralAloneSaid := over
#print axioms numeralAlone_holds
end Go.Proofs.Ytgodfjbmblghnaa

