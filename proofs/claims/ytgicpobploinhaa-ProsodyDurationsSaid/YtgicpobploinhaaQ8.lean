/- The duration of any phone by any rules, or the error: true for every input. -/
import Derived.Test.YtgicpobploinhaaP6
import Derived.Test.YtgicpobploinhaaProg
import Derived.Test.YtgicpobploinhaaRows
set_option linter.unusedVariables false
set_option maxRecDepth 20000
set_option maxHeartbeats 4000000
namespace Go.Proofs.Ytgicpobploinhaa
open Go Go.Ab Go.Proofs
def an8 : An := { imm := [3, 70], jn := [(4, [1, 2, 3, 7, 8]), (5, [1, 2, 3, 7, 8, 31]), (7, [1, 2, 3, 7, 55]), (14, [1, 2, 3, 7, 9, 10, 11]), (16, [3, 7, 9, 86])], lp := [(10, [1, 2, 3, 7, 9, 10])], loud := [], ord := [] }
def vc8 (C : Cb) (a0 a1 a2 : V) (H : Hp) (R : List V → Hp → Prop) : Prop :=
 C.aBx true 6 a0.nod H fun v1 H2 =>
 C.aLen a1.nod.nod fun v3 =>
 C.aBin (Try.prog.underlying 3) .gtr v3.nod (I 50) fun v4 =>
 aCond v4.nod (
 C.callE 15 [] H2 fun v5 H6 =>
 R [v5] H6) (
 Jn (fun l7 H8 =>
 Jn (fun l10 H11 =>
 aCond (l10.getD 5 .junk).nod (
 C.aBin (Try.prog.underlying 28) .eql (l10.getD 4 .junk).nod.nod (I 2) fun v13 =>
 Jv (fun v14 H15 =>
 Jv (fun v18 H19 =>
 R [v18] H19)
 (fun R20 =>
 aG v14.nod true (
 C.callE 15 [] H15 fun v21 H22 =>
 R20 v21.nod H22) (
 R20 (B false) H15)))
 (fun R16 =>
 aG v13.nod true (
 C.aBin (Try.prog.underlying 3) .eql (l10.getD 3 .junk).nod.nod (I 0) fun v17 =>
 R16 v17.nod H11) (
 R16 (B false) H11))) (
 Jn (fun l23 H24 =>
 aCond (l23.getD 4 .junk).nod (
 R [(B false)] H24) (
 LoopA (fun l26 H27 K28 =>
 C.aLen (l26.getD 0 .junk).nod.nod fun v29 =>
 C.aBin (Try.prog.underlying 3) .lss (l26.getD 5 .junk).nod.nod v29.nod fun v30 =>
 aCond v30.nod (
 C.aIx 3 (l26.getD 0 .junk).nod.nod (l26.getD 5 .junk).nod.nod fun v31 =>
 C.aLd 3 true false v31.nod H27 fun v32 H33 =>
 C.aBx false 3 (V.agg [(I 0), (I 0), (I 0)]) H33 fun v34 H35 =>
 C.aSt 3 v34.nod v32 H35 fun v36 H37 =>
 Jn (fun l38 H39 =>
 C.aLd 3 true false (l38.getD 6 .junk).nod H39 fun v41 H42 =>
 C.aBS 3 1 (V.agg [(I 0), (I 0), (I 0)]) [(0, v41.nod)] fun v43 =>
 C.aApp 3 24 (l38.getD 4 .junk) v43.nod fun v44 =>
 C.aBin (Try.prog.underlying 3) .add (l38.getD 5 .junk).nod.nod (I 1) fun v45 =>
 K28 [(l38.getD 0 .junk), (l38.getD 1 .junk), (l38.getD 2 .junk), (l38.getD 3 .junk), v44, v45] H42)
 (fun R40 =>
 C.aFA 2 1 false v34.nod fun v46 =>
 C.aLd 1 false false v46.nod H37 fun v47 H48 =>
 C.aMM true [(I 0), (l26.getD 1 .junk).nod.nod] fun v49 =>
 C.aWr .add v47.nod v49.nod fun v50 =>
 C.aFA 2 1 false v34.nod fun v51 =>
 C.aSt 1 v51.nod v50 H48 fun v52 H53 =>
 R40 [(l26.getD 0 .junk), (l26.getD 1 .junk), (l26.getD 2 .junk), (l26.getD 3 .junk), (l26.getD 4 .junk), (l26.getD 5 .junk), v34] H53)) (
 Jn (fun l54 H55 =>
 aCond (l54.getD 3 .junk).nod (
 C.callE 15 [] H55 fun v57 H58 =>
 R [v57] H58) (
 C.aLd 6 true false (l54.getD 0 .junk).nod H55 fun v59 H60 =>
 C.callE 31 [v59.nod, (l54.getD 2 .junk).nod.nod] H60 fun v61 H62 =>
 C.aExt 0 v61.nod.nod fun v63 =>
 C.aExt 1 v61.nod.nod fun v64 =>
 C.aBin (Try.prog.underlying 28) .eql v64.nod.nod (I 0) fun v65 =>
 Jv (fun v66 H67 =>
 Jv (fun v70 H71 =>
 R [v70] H71)
 (fun R72 =>
 aG v66.nod true (
 C.callE 15 [] H67 fun v73 H74 =>
 R72 v73.nod H74) (
 R72 (B false) H67)))
 (fun R68 =>
 aG v65.nod true (
 C.aBin (Try.prog.underlying 3) .geq v63.nod.nod (l54.getD 1 .junk).nod.nod fun v69 =>
 R68 v69.nod H62) (
 R68 (B false) H62))))
 (fun R56 =>
 C.aBin (Try.prog.underlying 3) .lss (l26.getD 1 .junk).nod.nod (I 0) fun v75 =>
 Jv (fun v76 H77 =>
 Jv (fun v80 H81 =>
 R56 [(l26.getD 2 .junk), (l26.getD 3 .junk), (l26.getD 4 .junk), v80] H81)
 (fun R82 =>
 aG v76.nod false (
 C.callE 33 [(l26.getD 4 .junk).nod.nod] H77 fun v83 H84 =>
 C.aUn .not v83.nod fun v85 =>
 R82 v85.nod H84) (
 R82 (B true) H77)))
 (fun R78 =>
 aG v75.nod false (
 C.aBin (Try.prog.underlying 3) .gtr (l26.getD 1 .junk).nod.nod (I 1000) fun v79 =>
 R78 v79.nod H27) (
 R78 (B true) H27)))))
 [(l23.getD 0 .junk), (l23.getD 1 .junk), (l23.getD 2 .junk), (l23.getD 3 .junk), (V.arr [] .full), (I 0)] H24))
 (fun R25 =>
 C.aBin (Try.prog.underlying 28) .neq (l10.getD 4 .junk).nod.nod (I 0) fun v86 =>
 Jv (fun v87 H88 =>
 Jv (fun v95 H96 =>
 R25 [(l10.getD 0 .junk), (l10.getD 1 .junk), (l10.getD 2 .junk), (l10.getD 3 .junk), v95] H96)
 (fun R97 =>
 aG v87.nod false (
 C.aFA 1 1 false (l10.getD 2 .junk).nod fun v98 =>
 C.aLd 1 false false v98.nod H88 fun v99 H100 =>
 C.aBin (Try.prog.underlying 3) .lss (l10.getD 3 .junk).nod.nod v99.nod fun v101 =>
 R97 v101.nod H100) (
 R97 (B true) H88)))
 (fun R89 =>
 aG v86.nod false (
 C.aLd 6 true false (l10.getD 2 .junk).nod H11 fun v90 H91 =>
 C.callE 34 [v90.nod, (l10.getD 0 .junk).nod.nod] H91 fun v92 H93 =>
 C.aBin (Try.prog.underlying 3) .neq (l10.getD 3 .junk).nod.nod v92.nod fun v94 =>
 R89 v94.nod H93) (
 R89 (B true) H11)))))
 (fun R12 =>
 C.aLd 6 true false (l7.getD 2 .junk).nod H8 fun v102 H103 =>
 C.callE 32 [v102.nod] H103 fun v104 H105 =>
 C.aUn .not v104.nod fun v106 =>
 Jv (fun v107 H108 =>
 R12 [(l7.getD 0 .junk), (l7.getD 1 .junk), (l7.getD 2 .junk), (l7.getD 3 .junk), (l7.getD 4 .junk), v107] H108)
 (fun R109 =>
 aG v106.nod false (
 C.callE 33 [(l7.getD 0 .junk).nod.nod] H105 fun v110 H111 =>
 C.aUn .not v110.nod fun v112 =>
 R109 v112.nod H111) (
 R109 (B true) H105))))
 (fun R9 =>
 C.aLd 6 true false v1.nod H2 fun v113 H114 =>
 C.callE 31 [v113.nod, a1.nod.nod] H114 fun v115 H116 =>
 C.aExt 0 v115.nod.nod fun v117 =>
 C.aExt 1 v115.nod.nod fun v118 =>
 R9 [a1, a2, v1, v117, v118] H116))
theorem wf8 : (Nat.ble 3 Try.f8.ntmps && wfC an8 Try.f8.ntmps (Try.f8.body.getD .skip)) = true := by kernel_rfl
theorem tie8 (C : Cb) (a0 a1 a2 : V) (H : Hp) (R : List V → Hp → Prop) : wpG Try.prog C an8 (Try.f8.body.getD .skip) (argF [a0, a1, a2]) H (retG Try.prog C Try.f8 R) (fun _ _ _ => False) (retG Try.prog C Try.f8 R) = vc8 C a0 a1 a2 H R := by kernel_rfl
theorem mk8 (a0 a1 a2 : V) {H : Hp} {v : V} {H1 : Hp} (hd : v.Nd) (hn : H.length ≤ H1.length) (hb : H1 = H ∨ ∀ (b : Nat) (blk : Blk), H1[b]? = some blk → H[b]? = some blk ∨ BelB H1.length blk) (h : vc8 (real Try.prog) a0 a1 a2 H (retF v H1)) : Ret Try.prog 8 [a0, a1, a2] H v H1 :=
 ret_mk (an := an8) hm Try.call8 Try.func8 rfl wf8 hd hn hb (Eq.mpr (tie8 (real Try.prog) a0 a1 a2 H (retF v H1)) h)
theorem mkE8 (a0 a1 a2 : V) {H : Hp} {Q : V → Hp → Prop} (h : vc8 (real Try.prog) a0 a1 a2 H (retW Q)) : RetE Try.prog 8 [a0, a1, a2] H Q :=
 retE_mk (an := an8) hm Try.call8 Try.func8 rfl wf8 (Eq.mpr (tie8 (real Try.prog) a0 a1 a2 H (retW Q)) h)
theorem mko8 (a0 a1 a2 : V) {H : Hp} {xs : List V} {H1 : Hp} (hn : H.length ≤ H1.length) (hb : H1 = H ∨ ∀ (b : Nat) (blk : Blk), H1[b]? = some blk → H[b]? = some blk ∨ BelB H1.length blk) (h : vc8 (real Try.prog) a0 a1 a2 H (retO xs H1)) : Ret Try.prog 8 [a0, a1, a2] H (.arr xs .own) H1 :=
 ret_mko (an := an8) (t := 6) hm Try.call8 Try.func8 rfl wf8 rfl hn hb (Eq.mpr (tie8 (real Try.prog) a0 a1 a2 H (retO xs H1)) h)
end Go.Proofs.Ytgicpobploinhaa
set_option linter.unusedSimpArgs false
set_option linter.unnecessarySimpa false
set_option maxHeartbeats 2000000
namespace Go.Proofs.Ytgicpobploinhaa
open Go Go.Ab Go.Proofs
attribute [local congr] g_bin g_nilS g_nilP g_un g_ext g_bx g_fa g_ld g_st g_ix g_ixA g_slc g_mk g_bs g_bd g_nc g_cv g_len g_lenT g_app g_appB g_cpy g_mm g_call g_callG g_calm g_calmG g_range g_res g_pick g_cond g_loop g_Jv g_eqS g_eqP g_fd g_ixT g_ta g_lkp g_upd g_mkM g_appS g_inv g_callE g_callEG g_invE g_zr g_wr
def grR (more : Int) (r : Drl) : Drl := ⟨r.k, r.b, IntKind.i64.wrap (r.p + max 0 more)⟩
theorem pc1_mono {a a' p p' : Int} (h0 : 0 ≤ a) (h : a ≤ a') (k0 : 0 ≤ p) (k : p ≤ p') : pc1 a p ≤ pc1 a' p' := by
 unfold pc1
 have := Int.mul_le_mul h k k0 (by omega)
 omega
theorem pcA_mono (p : Tim) (g : Drl → Drl) (hg : ∀ r, (g r).k = r.k ∧ (g r).b = r.b) : ∀ (l : List Drl) (a a' : Int), (∀ r, r ∈ l → 0 ≤ r.p ∧ r.p ≤ (g r).p) → 0 ≤ a → a ≤ a' →
    l.foldl (fun a r => if hldP p r = true then min 10000 (pc1 a r.p) else a) a ≤ (l.map g).foldl (fun a r => if hldP p r = true then min 10000 (pc1 a r.p) else a) a'
  | [], a, a', _, _, h => h
  | r :: l, a, a', hl, h0, h => by
    obtain ⟨h1, h2⟩ := hl r (by simp)
    have eh : hldP p (g r) = hldP p r := by
      unfold hldP
      rw [(hg r).1, (hg r).2]
    rw [List.map_cons, List.foldl_cons, List.foldl_cons, eh]
    have hm := pc1_mono h0 h h1 h2
    have hn := pc1_nn h0 h1
    refine pcA_mono p g hg l _ _ (fun x hx => hl x (List.mem_cons_of_mem _ hx)) ?_ ?_
    · split <;> omega
    · split <;> omega
theorem durP_mono {p : Tim} (hp : okTi p = true) (g : Drl → Drl) (hg : ∀ r, (g r).k = r.k ∧ (g r).b = r.b) (l : List Drl) (hl : ∀ r, r ∈ l → 0 ≤ r.p ∧ r.p ≤ (g r).p) : durP p l ≤ durP p (l.map g) := by
 have h := okTi_p hp
 have h1 := pcA_rng p l fun r hr => (hl r hr).1
 have h2 : pcA p l ≤ pcA p (l.map g) := pcA_mono p g hg l 100 100 hl (by decide) (Int.le_refl _)
 have h3 := pc1_mono (a := p.us - p.le) (a' := p.us - p.le) (p := pcA p l) (p' := pcA p (l.map g)) (by omega) (Int.le_refl _) h1.1 h2
 unfold durP
 omega
theorem bs_dr (x : Drl) (z : V) (K : V → Prop) : aBS 3 1 z [(0, .agg [I x.k, I x.b, I x.p])] K = K (.arr [.agg [I x.k, I x.b, I x.p]] .full) := by
 have h := okE_3 x.k x.b x.p
 simp [aBS, aPs, setP, h]
theorem c8 (p : Tim) (l : List Drl) (more : Int) (H : Hp) (w1 : l.length ≤ 9223372036854775807) : Ret Try.prog 8 [tiV p, .arr (l.map drV) .no, I more] H (B true) H := by
 refine mk8 _ _ _ rfl (Nat.le_refl _) (.inl rfl) ?_
 simp only [vc8, real]
 by_cases h5 : 50 < (l.length : Int)
 ·repeat (first | (with_reducible first | refine Ju.go ?_ | (refine Hd.go ?_; intro K Q hK hQ; simp only [nod_agg, List.map_cons, nodL_imm, List.map_nil, e_bxI, okE_agg, lv_cons, List.length_nil, Nat.zero_add, Nat.reduceAdd, all_c, ck_I, ck_B, all_n, Bool.and_self, and_true, true_and, nod_arr, nd_no, e_lenA, List.length_map, nod_imm, Try.underlying3, e_gtr, h5, decide_true, e_cond, if_true]; subst hK hQ) | refine Jr.go ?_) | refine sd ?_)
  refine call_of (c15 _) ?_
  repeat (first | (with_reducible first | refine Ju.go ?_ | (refine Hd.go ?_; intro K Q hK hQ; simp only []; subst hK hQ) | refine Jr.go ?_) | refine sd ?_)
  exact end1 (fzI _)
 ·repeat (first | (with_reducible first | refine Ju.go ?_ | (refine Hd.go ?_; intro K Q hK hQ; simp only [nod_agg, List.map_cons, nodL_imm, List.map_nil, e_bxI, okE_agg, lv_cons, List.length_nil, Nat.zero_add, Nat.reduceAdd, all_c, ck_I, ck_B, all_n, Bool.and_self, and_true, true_and, nod_arr, nd_no, e_lenA, List.length_map, nod_imm, Try.underlying3, e_gtr, h5, decide_false, e_cond, Bool.false_eq_true, if_false, nod_cptr, e_ldcA]; subst hK hQ) | refine Jr.go ?_) | refine sd ?_)
  refine call_of (c31 p l H w1) ?_
  cases hok : (okTi p && okDs l)
  ·rw [if_neg (by decide)]
   repeat (first | (with_reducible first | refine Ju.go ?_ | (refine Hd.go ?_; intro K Q hK hQ; simp only [nod_tup, List.map_cons, nod2_imm, List.map_nil, e_x20, e_x21, List.getD_cons_succ, List.getD_cons_zero, nod_cptr, e_ldcA, lv_cons, List.length_nil, Nat.zero_add, Nat.reduceAdd, true_and, nod_agg, nodL_imm]; subst hK hQ) | refine Jr.go ?_) | refine sd ?_)
   refine call_of (c32 p H) ?_
   repeat (first | (with_reducible first | refine Ju.go ?_ | (refine Hd.go ?_; intro K Q hK hQ; simp only [nod_imm, e_not, List.getD_cons_zero, nod_arr, nd_no, e_gF]; subst hK hQ) | refine Jr.go ?_) | refine sd ?_)
   refine jo_n (c33 l H w1) ?_
   rw [← Bool.not_and, hok]
   repeat (first | (with_reducible first | refine Ju.go ?_ | (refine Hd.go ?_; intro K Q hK hQ; simp only [Bool.not_false, List.getD_cons_zero, List.getD_cons_succ, nod_imm, e_cond, if_true, e_eql, decide_true, Try.underlying3, e_gT, cond_true, j_one]; subst hK hQ) | refine Jr.go ?_) | refine sd ?_)
   refine call_of (c15 _) ?_
   repeat (first | (with_reducible first | refine Ju.go ?_ | (refine Hd.go ?_; intro K Q hK hQ; simp only [nod_imm]; subst hK hQ) | refine Jr.go ?_) | refine sd ?_)
   exact end1 (fzI _)
  ·rw [if_pos rfl]
   have hok2 := hok
   rw [Bool.and_eq_true] at hok2
   obtain ⟨hp, hd⟩ := hok2
   have hpp := okTi_p hp
   repeat (first | (with_reducible first | refine Ju.go ?_ | (refine Hd.go ?_; intro K Q hK hQ; simp only [nod_tup, List.map_cons, nod2_imm, List.map_nil, e_x20, e_x21, List.getD_cons_succ, List.getD_cons_zero, nod_cptr, e_ldcA, lv_cons, List.length_nil, Nat.zero_add, Nat.reduceAdd, true_and, nod_agg, nodL_imm]; subst hK hQ) | refine Jr.go ?_) | refine sd ?_)
   refine call_of (c32 p H) ?_
   repeat (first | (with_reducible first | refine Ju.go ?_ | (refine Hd.go ?_; intro K Q hK hQ; simp only [nod_imm, e_not, List.getD_cons_zero, nod_arr, nd_no, e_gF]; subst hK hQ) | refine Jr.go ?_) | refine sd ?_)
   refine jo_n (c33 l H w1) ?_
   rw [← Bool.not_and, hok]
   repeat (first | (with_reducible first | refine Ju.go ?_ | (refine Hd.go ?_; intro K Q hK hQ; simp only [Bool.not_true, List.getD_cons_zero, List.getD_cons_succ, nod_imm, e_cond, Bool.false_eq_true, if_false, e_neq, decide_true, nod_cptr, nod_arr, nd_no, Try.underlying3, e_ldcA, lv_cons, List.length_nil, Nat.zero_add, Nat.reduceAdd, nod_agg, List.map_cons, nodL_imm, List.map_nil, true_and, e_gF, cond_false]; subst hK hQ) | refine Jr.go ?_) | refine sd ?_)
   refine call_of (c34 p l H hp hd) ?_
   have hall : ∀ r, r ∈ l → okDr r = true := by
    unfold okDs at hd
    rw [Bool.and_eq_true, List.all_eq_true] at hd
    exact hd.2
   have hge : ¬ durP p l < p.le := by
    have h1 := pcA_rng p l fun r hr => by have := okDr_p (hall r hr); omega
    have := pc1_nn (n := p.us - p.le) (p := pcA p l) (by omega) h1.1
    unfold durP; omega
   repeat (first | (with_reducible first | refine Ju.go ?_ | (refine Hd.go ?_; intro K Q hK hQ; simp only [nod_imm, e_neq, decide_true, Bool.not_true, List.getD_cons_succ, List.getD_cons_zero, nod_cptr, Try.underlying3, e_fac, Nat.reduceAdd, lv_cons, List.length_nil, Nat.zero_add, Nat.reduceLeDiff, e_ldc, e_lss, hge, decide_false, true_and, e_gF, cond_false, j_one, e_cond, Bool.false_eq_true, if_false]; subst hK hQ) | refine Jr.go ?_) | refine sd ?_)
   refine loop_of (fun q : Nat × Fl × Hp => q.1 ≤ l.length ∧ q.2.1.ap = true ∧ (q.1 = 0 → q.2.1 = .full) ∧ (q.1 ≠ 0 → q.2.1 = .own) ∧ H.length ≤ q.2.2.length ∧ ∀ c, c < H.length → q.2.2[c]? = H[c]?) (fun q => [.arr (l.map drV) .no, I more, .cptr (tiV p), I (durP p l), .arr (((l.take q.1).map (grR more)).map drV) q.2.1, I q.1]) (·.2.2) (fun q => l.length - q.1) (0, .full, H) ⟨Nat.zero_le _, rfl, fun _ => rfl, fun h => absurd rfl h, Nat.le_refl _, fun _ _ => rfl⟩ rfl rfl ?_
   rintro ⟨i, f, G⟩ ⟨hi, hf, hf0, hf1, hln, hlo⟩
   simp only at hi hf hf0 hf1 hln hlo ⊢
   repeat (first | (with_reducible first | refine Ju.go ?_ | (refine Hd.go ?_; intro K Q hK hQ; simp only [List.getD_cons_zero, nod_arr, nd_no, e_lenA, List.length_map, List.getD_cons_succ, nod_imm, Try.underlying3, e_lss, e_cond, decide_eq_true_eq]; subst hK hQ) | refine Jr.go ?_) | refine sd ?_)
   by_cases hlt : i < l.length
   ·have di : (i : Int) < l.length := by omega
    have es : (l.take (i + 1)).map (grR more) = (l.take i).map (grR more) ++ [grR more (l.getD i default)] := by rw [take_snocA l default hlt, List.map_append]; rfl
    repeat (first | (with_reducible first | refine Ju.go ?_ | (refine Hd.go ?_; intro K Q hK hQ; simp only [di, if_true, List.getD_cons_zero, nod_arr, nd_no, List.getD_cons_succ, nod_imm, ix_dr, Int.toNat_natCast, true_and, nod_cptr, e_ldcA, lv_cons, List.length_nil, Nat.zero_add, Nat.reduceAdd, e_bx, okE_agg, all_c, ck_I, all_n, Bool.and_self, and_true, cl_agg, nod_ptr, e_sc0, Nat.reduceLeDiff, stV_agg, List.map_cons, nodL_imm, List.map_nil, spl_0, spl_n, e_fa, e_lc0, e_max2, e_wr, stV_imm, okE_I, cl_imm, spl_s, e_lA0, dr_0, tk_s, tk_0, nod_agg]; subst hK hQ) | refine Jr.go ?_) | refine sd ?_)
    refine Eq.mpr (bs_dr (grR more (l.getD i default)) _ _) ?_
    refine Eq.mpr (e_appE drV (fun _ => rfl) 24 ((l.take i).map (grR more)) [grR more (l.getD i default)] f .full) ⟨hf, by simp; omega, ?_⟩
    rw [← es]
    repeat (first | (with_reducible first | refine Ju.go ?_ | (refine Hd.go ?_; intro K Q hK hQ; simp only [List.getD_cons_succ, List.getD_cons_zero, nod_imm, Try.underlying3, e_add]; subst hK hQ) | refine Jr.go ?_) | refine sd ?_)
    refine ⟨(i + 1, .own, _), ⟨hlt, rfl, fun h => absurd h (Nat.succ_ne_zero i), fun _ => rfl, ?_, fun c hc => ?_⟩, rfl, rfl, by show l.length - (i + 1) < l.length - i; omega⟩
    ·show H.length ≤ (G ++ _).length
     rw [List.length_append]; omega
    ·show (G ++ _)[c]? = _
     rw [List.getElem?_append_left (by omega)]; exact hlo c hc
   ·have di : ¬ (i : Int) < l.length := by omega
    obtain rfl : i = l.length := by omega
    rw [List.take_of_length_le (Nat.le_refl _)]
    repeat (first | (with_reducible first | refine Ju.go ?_ | (refine Hd.go ?_; intro K Q hK hQ; simp only [di, if_false, List.getD_cons_succ, List.getD_cons_zero, nod_imm, Try.underlying3, e_lss, e_gtr, e_gF, j_or', j_one, nod_arr]; subst hK hQ) | refine Jr.go ?_) | refine sd ?_)
    generalize hR : Rn _ = R
    have kn : R [.cptr (tiV p), I (durP p l), .arr ((l.map (grR more)).map drV) f, B true] G := by
     subst hR
     repeat (first | (with_reducible first | refine Ju.go ?_ | (refine Hd.go ?_; intro K Q hK hQ; simp only [List.getD_cons_succ, List.getD_cons_zero, nod_imm, e_cond, if_true]; subst hK hQ) | refine Jr.go ?_) | refine sd ?_)
     refine call_of (c15 _) ?_
     repeat (first | (with_reducible first | refine Ju.go ?_ | (refine Hd.go ?_; intro K Q hK hQ; simp only []; subst hK hQ) | refine Jr.go ?_) | refine sd ?_)
     exact end1T (fzI _) (take_low hlo hln)
    by_cases hm : more < 0 ∨ 1000 < more
    ·have e : (decide (more < 0) || decide (1000 < more)) = true := by
      rw [Bool.or_eq_true, decide_eq_true_eq, decide_eq_true_eq]; exact hm
     repeat (first | (with_reducible first | refine Ju.go ?_ | (refine Hd.go ?_; intro K Q hK hQ; simp only [e, cond_true]; subst hK hQ) | refine Jr.go ?_) | refine sd ?_)
     exact kn
    ·have e : (decide (more < 0) || decide (1000 < more)) = false := by
      rw [Bool.or_eq_false_iff, decide_eq_false_iff_not, decide_eq_false_iff_not]; omega
     have hff : f = .full ∨ f = .own := by
      by_cases h0 : l.length = 0
      ·exact .inl (hf0 h0)
      ·exact .inr (hf1 h0)
     have wk : WkL [.arr ((l.map (grR more)).map drV) f.nd.nd] [.arr ((l.map (grR more)).map drV) .no] := by
      rcases hff with rfl | rfl
      ·exact .cons (.full _) .nil
      ·exact .cons (.refl _) .nil
     have wk1 : WkL [.arr ((l.map (grR more)).map drV) f.nd] [.arr ((l.map (grR more)).map drV) .no] := by
      rcases hff with rfl | rfl
      ·exact .cons (.full _) .nil
      ·exact .cons (.refl _) .nil
     have hgl : (l.map (grR more)).length = l.length := List.length_map ..
     repeat (first | (with_reducible first | refine Ju.go ?_ | (refine Hd.go ?_; intro K Q hK hQ; simp only [e, cond_false]; subst hK hQ) | refine Jr.go ?_) | refine sd ?_)
     refine call_wk (c33 (l.map (grR more)) G (by rw [hgl]; exact w1)) wk ?_
     cases hgd : okDs (l.map (grR more))
     ·repeat (first | (with_reducible first | refine Ju.go ?_ | (refine Hd.go ?_; intro K Q hK hQ; simp only [nod_imm, e_not, Bool.not_false]; subst hK hQ) | refine Jr.go ?_) | refine sd ?_)
      exact kn
     ·repeat (first | (with_reducible first | refine Ju.go ?_ | (refine Hd.go ?_; intro K Q hK hQ; simp only [nod_imm, e_not, Bool.not_true]; subst hK hQ) | refine Jr.go ?_) | refine sd ?_)
      clear kn
      subst hR
      repeat (first | (with_reducible first | refine Ju.go ?_ | (refine Hd.go ?_; intro K Q hK hQ; simp only [List.getD_cons_succ, List.getD_cons_zero, nod_imm, e_cond, Bool.false_eq_true, if_false, nod_cptr, e_ldcA, lv_cons, List.length_nil, Nat.zero_add, Nat.reduceAdd, true_and, nod_agg, List.map_cons, nodL_imm, List.map_nil, nod_arr]; subst hK hQ) | refine Jr.go ?_) | refine sd ?_)
      have c := c31 p (l.map (grR more)) G (by rw [hgl]; exact w1)
      rw [if_pos (by rw [hp, hgd]; rfl)] at c
      refine call_wk c (.cons (.refl _) (by first | exact wk | exact wk1)) ?_
      have hmono : durP p l ≤ durP p (l.map (grR more)) := durP_mono hp (grR more) (fun r => ⟨rfl, rfl⟩) l fun r hr => by
       have := okDr_p (hall r hr)
       refine ⟨by omega, ?_⟩
       show r.p ≤ IntKind.i64.wrap (r.p + max 0 more)
       have ew : IntKind.i64.wrap (r.p + max 0 more) = r.p + max 0 more := by
        have hw : 0 ≤ r.p + max 0 more ∧ r.p + max 0 more ≤ 2000 := by omega
        generalize r.p + max 0 more = z at hw
        have hz : z % 2 ^ 64 = z := by omega
        simp only [IntKind.wrap, IntKind.bits, IntKind.signed, hz]
        rw [if_neg]
        simp; omega
       rw [ew]; omega
      repeat (first | (with_reducible first | refine Ju.go ?_ | (refine Hd.go ?_; intro K Q hK hQ; simp only [nod_tup, List.map_cons, nod2_imm, List.map_nil, e_x20, e_x21, nod_imm, e_eql, decide_true, Try.underlying3, List.getD_cons_succ, List.getD_cons_zero, e_geq, hmono, e_gT, cond_true, j_one]; subst hK hQ) | refine Jr.go ?_) | refine sd ?_)
      refine call_of (c15 _) ?_
      repeat (first | (with_reducible first | refine Ju.go ?_ | (refine Hd.go ?_; intro K Q hK hQ; simp only [nod_imm]; subst hK hQ) | refine Jr.go ?_) | refine sd ?_)
      exact end1T (fzI _) (take_low hlo hln)
open Go.ChangeShapes Go.WideShapes Go.ChangeAt Go.RowKit
theorem own : ownKnob Try.prog.godebug = none := by kernel_rfl
theorem laidOut : laidOutB Try.prog = true := by kernel_rfl
set_option maxRecDepth 100000 in
theorem lifted (os : Os) (started : os.Started) (H : Type) (enc : TypeId × Value → H) :
    ReturnsInHanded {} Try.checked os 8 .any (Rows.prosodyDurationsSpec.pre6 enc Try.prog Try.f8 Rows.prosodyDurationsRow.domain false) (Rows.prosodyDurationsSpec.post enc Try.prog Try.f8 false true false false) := by
  refine returnsInHanded_of_change (C := Try.checked) own started (by kernel_rfl) Try.func8
    (ChangeSpec.witness6 (enc := enc) (C := Try.checked) false ⟨#[], #[.agg #[.int .i64 0, .int .i64 0, .bool false, .bool false, .int .i64 0, .int .i64 0], .slice none 0 0, .int .i64 0], []⟩ 8 (by kernel_rfl) (by kernel_rfl) (by kernel_rfl) (by kernel_rfl)) ?_
  intro W base args ds gs before hval0 hW hcnd _
  have hval : ∀ (j : Nat) t v, Try.f8.params[j]? = some t → args[j]? = some v → Value.okWide Try.prog W .any base t v := hval0
  have hW' := hW
  obtain ⟨p, q, hA0, hV, rfl, hfz, hnd⟩ := hW
  have hA : DataW.TrodAll enc Try.prog W 0 (fun _ => true) true Try.f8.params.toList args.toList ds p := hA0
  rw [Try.params8] at hA hval
  obtain ⟨v0, vs0, d0, ds0, p0, q0, hargs, rfl, rfl, h0, r0⟩ := trodAll_cons hA
  obtain ⟨v1, vs1, d1, ds1, p1, q1, rfl, rfl, rfl, h1, r1⟩ := trodAll_cons r0
  obtain ⟨v2, vs2, d2, ds2, p2, q2, rfl, rfl, rfl, h2, r2⟩ := trodAll_cons r1
  obtain ⟨rfl, rfl, rfl⟩ := trodAll_nil r2
  obtain rfl : args = #[v0, v1, v2] := by cases args; simp_all
  obtain ⟨rfl, rfl⟩ := trodVars_none hV
  have lt0 : ∀ x ∈ p0, x.block < W.heap.size := by obtain ⟨m, hm⟩ := h0; exact DataW.trod_lt m _ _ _ hm
  obtain ⟨l0, e0⟩ := in_tim (hval 0 _ v0 rfl rfl) h0
  have lt1 : ∀ x ∈ p1, x.block < W.heap.size := by obtain ⟨m, hm⟩ := h1; exact DataW.trod_lt m _ _ _ hm
  obtain ⟨l1, w1, e1⟩ := in_rules (hval 1 _ v1 rfl rfl) h1
  have lt2 : ∀ x ∈ p2, x.block < W.heap.size := by obtain ⟨m, hm⟩ := h2; exact DataW.trod_lt m _ _ _ hm
  obtain ⟨n2, e2, w2⟩ := in_int Try.underlying3 (hval 2 _ v2 rfl rfl) h2
  clear hA0 hval0
  refine (bridge (args := [tiV l0, .arr (l1.map drV) .no, I n2]) (ra := #[v0, v1, v2]) (c8 l0 l1 n2 [] w1) rfl (by intro a ha; simp at ha; rcases ha with rfl | rfl | rfl <;> rfl) (fun i => ?_)).mono fun e W' ⟨he, bel⟩ => ?_
  · match i with
    | 0 => exact e0
    | 1 => exact e1
    | 2 => exact e2
    | i + 3 => exact .junk _
  · subst he
    exact ⟨_, rfl, _, _, _, [], _, [], hW', trodAll_mk1 (shut_bool Try.underlying4 _), (trodAll_cons_mk (Below.trod laidOut (by kernel_rfl) (of_decide_eq_true (by kernel_rfl)) h0 bel lt0) (trodAll_cons_mk (Below.trod laidOut (by kernel_rfl) (of_decide_eq_true (by kernel_rfl)) h1 bel lt1) (trodAll_cons_mk (Below.trod laidOut (by kernel_rfl) (of_decide_eq_true (by kernel_rfl)) h2 bel lt2) trodAll_mk0))), rfl, bel.frame _, fun h => by cases h⟩
theorem over : Rows.prosodyDurationsRow.holds Try.pinned (OpenSpec.ofChange Rows.prosodyDurationsSpec) :=
 OpenClaim.holds_of_wide 8 Try.f8 rfl rfl rfl rfl rfl rfl rfl ⟨rfl, rfl, rfl, rfl, rfl⟩ rfl rfl rfl rfl rfl (by kernel_rfl) Try.func8 (by kernel_rfl)
  (of_decide_eq_true (by kernel_rfl)) (by unfold Func.isWrapper; first | (rw [if_pos (by decide +kernel)]; kernel_rfl) | (rw [if_neg (by decide +kernel)]; exact ⟨rfl, rfl⟩))
  (fun os started H enc _ => lifted os started H enc)
theorem prosodyDurations_holds : Rows.ProsodyDurationsSaid := over
#print axioms prosodyDurations_holds
end Go.Proofs.Ytgicpobploinhaa
