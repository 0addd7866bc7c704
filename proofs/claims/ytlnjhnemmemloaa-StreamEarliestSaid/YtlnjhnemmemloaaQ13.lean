/- Jobs that are in time in some order are in time in the order by due times: true for every input. -/
import Derived.Test.YtlnjhnemmemloaaP6
import Derived.Test.YtlnjhnemmemloaaProg
import Derived.Test.YtlnjhnemmemloaaRows
set_option linter.unusedVariables false
set_option maxRecDepth 20000
set_option maxHeartbeats 4000000
namespace Go.Proofs.Ytlnjhnemmemloaa
open Go Go.Ab Go.Proofs
def an13 : An := { imm := [], jn := [(2, [0, 1, 22]), (5, [0, 1, 5, 6, 7, 8]), (6, [0, 1, 7, 8, 44]), (10, [0, 1, 7, 9]), (13, [0, 1, 7, 9, 10, 11]), (15, [0, 1, 7, 9, 10, 11, 83])], lp := [(12, [0, 1, 7, 9, 10, 11])], loud := [], ord := [] }
def vc13 (C : Cb) (a0 a1 : V) (H : Hp) (R : List V → Hp → Prop) : Prop :=
 Jn (fun l1 H2 =>
 aCond (l1.getD 2 .junk).nod (
 C.callE 15 [] H2 fun v4 H5 =>
 R [v4] H5) (
 C.callE 44 [(l1.getD 0 .junk).nod.nod, (l1.getD 1 .junk).nod.nod] H2 fun v6 H7 =>
 C.aExt 0 v6.nod.nod fun v8 =>
 C.aExt 1 v6.nod.nod fun v9 =>
 Jn (fun l10 H11 =>
 Jn (fun l13 H14 =>
 aCond (l13.getD 4 .junk).nod (
 R [(B false)] H14) (
 C.aBin (Try.prog.underlying 30) .neq (l13.getD 3 .junk).nod.nod (I 0) fun v16 =>
 aCond v16.nod (
 C.aBin (Try.prog.underlying 30) .eql (l13.getD 3 .junk).nod.nod (I 5) fun v17 =>
 Jv (fun v18 H19 =>
 R [v18] H19)
 (fun R20 =>
 aG v17.nod true (
 C.callE 15 [] H14 fun v21 H22 =>
 R20 v21.nod H22) (
 R20 (B false) H14))) (
 Jn (fun l23 H24 =>
 LoopA (fun l26 H27 K28 =>
 C.aLen (l26.getD 2 .junk).nod.nod fun v29 =>
 C.aBin (Try.prog.underlying 3) .lss (l26.getD 5 .junk).nod.nod v29.nod fun v30 =>
 aCond v30.nod (
 Jn (fun l31 H32 =>
 C.aBin (Try.prog.underlying 3) .add (l31.getD 5 .junk).nod.nod (I 1) fun v34 =>
 K28 [(l31.getD 0 .junk), (l31.getD 1 .junk), (l31.getD 2 .junk), (l31.getD 3 .junk), (l31.getD 4 .junk), v34] H32)
 (fun R33 =>
 Jn (fun l35 H36 =>
 aCond (l35.getD 6 .junk).nod (
 R [(B false)] H36) (
 C.aIx 1 (l35.getD 2 .junk).nod.nod (l35.getD 5 .junk).nod.nod fun v38 =>
 C.aLd 1 false false v38.nod H36 fun v39 H40 =>
 C.aIx 1 (l35.getD 3 .junk).nod.nod v39.nod fun v41 =>
 C.aSt 1 v41.nod (B true) H40 fun v42 H43 =>
 C.aIx 1 (l35.getD 2 .junk).nod.nod (l35.getD 5 .junk).nod.nod fun v44 =>
 C.aLd 1 false false v44.nod H43 fun v45 H46 =>
 C.aIx 2 (l35.getD 1 .junk).nod.nod v45.nod fun v47 =>
 C.aLd 2 true false v47.nod H46 fun v48 H49 =>
 C.aBS 2 1 (V.agg [(I 0), (I 0)]) [(0, v48.nod)] fun v50 =>
 C.aApp 2 16 (l35.getD 4 .junk) v50.nod fun v51 =>
 R33 [(l35.getD 0 .junk), (l35.getD 1 .junk), (l35.getD 2 .junk), (l35.getD 3 .junk), v51, (l35.getD 5 .junk)] H49))
 (fun R37 =>
 C.aIx 1 (l26.getD 2 .junk).nod.nod (l26.getD 5 .junk).nod.nod fun v52 =>
 C.aLd 1 false false v52.nod H27 fun v53 H54 =>
 C.aBin (Try.prog.underlying 3) .lss v53.nod (I 0) fun v55 =>
 Jv (fun v56 H57 =>
 Jv (fun v64 H65 =>
 R37 [(l26.getD 0 .junk), (l26.getD 1 .junk), (l26.getD 2 .junk), (l26.getD 3 .junk), (l26.getD 4 .junk), (l26.getD 5 .junk), v64] H65)
 (fun R66 =>
 aG v56.nod false (
 C.aIx 1 (l26.getD 2 .junk).nod.nod (l26.getD 5 .junk).nod.nod fun v67 =>
 C.aLd 1 false false v67.nod H57 fun v68 H69 =>
 C.aIx 1 (l26.getD 3 .junk).nod.nod v68.nod fun v70 =>
 C.aLd 1 false false v70.nod H69 fun v71 H72 =>
 R66 v71.nod H72) (
 R66 (B true) H57)))
 (fun R58 =>
 aG v55.nod false (
 C.aIx 1 (l26.getD 2 .junk).nod.nod (l26.getD 5 .junk).nod.nod fun v59 =>
 C.aLd 1 false false v59.nod H54 fun v60 H61 =>
 C.aLen (l26.getD 1 .junk).nod.nod fun v62 =>
 C.aBin (Try.prog.underlying 3) .geq v60.nod v62.nod fun v63 =>
 R58 v63.nod H61) (
 R58 (B true) H54))))) (
 C.callE 44 [(l26.getD 0 .junk).nod.nod, (l26.getD 4 .junk).nod.nod] H27 fun v73 H74 =>
 C.aExt 0 v73.nod.nod fun v75 =>
 C.aExt 1 v73.nod.nod fun v76 =>
 C.aLen (l26.getD 2 .junk).nod.nod fun v77 =>
 C.aLen (l26.getD 1 .junk).nod.nod fun v78 =>
 C.aBin (Try.prog.underlying 3) .eql v77.nod v78.nod fun v79 =>
 Jv (fun v80 H81 =>
 Jv (fun v84 H85 =>
 Jv (fun v87 H88 =>
 R [v87] H88)
 (fun R89 =>
 aG v84.nod true (
 C.callE 15 [] H85 fun v90 H91 =>
 R89 v90.nod H91) (
 R89 (B false) H85)))
 (fun R86 =>
 aG v80.nod true (
 R86 v75.nod.nod H81) (
 R86 (B false) H81)))
 (fun R82 =>
 aG v79.nod true (
 C.aBin (Try.prog.underlying 30) .eql v76.nod.nod (I 0) fun v83 =>
 R82 v83.nod H74) (
 R82 (B false) H74))))
 [(l23.getD 0 .junk), (l23.getD 1 .junk), (l23.getD 2 .junk), (l23.getD 3 .junk), (V.arr [] .full), (I 0)] H24)
 (fun R25 =>
 C.aLen (l13.getD 1 .junk).nod.nod fun v92 =>
 C.aMk false (B false) 1 v92.nod v92.nod H14 fun v93 H94 =>
 R25 [(l13.getD 0 .junk), (l13.getD 1 .junk), (l13.getD 2 .junk), v93] H94))))
 (fun R15 =>
 C.aBin (Try.prog.underlying 30) .neq (l10.getD 3 .junk).nod.nod (I 0) fun v95 =>
 Jv (fun v96 H97 =>
 R15 [(l10.getD 0 .junk), (l10.getD 1 .junk), (l10.getD 4 .junk), (l10.getD 5 .junk), v96] H97)
 (fun R98 =>
 aG v95.nod false (
 aG (l10.getD 2 .junk).nod.nod true (
 C.aBin (Try.prog.underlying 30) .neq (l10.getD 5 .junk).nod.nod (I 0) fun v99 =>
 R98 v99.nod.nod H11) (
 R98 (B false) H11)) (
 UD = UD ∧
 UD = UD ∧
 R98 (B true) H11))))
 (fun R12 =>
 C.callE 45 [(l1.getD 0 .junk).nod.nod, (l1.getD 1 .junk).nod.nod] H7 fun v100 H101 =>
 C.aExt 0 v100.nod.nod fun v102 =>
 C.aExt 1 v100.nod.nod fun v103 =>
 R12 [(l1.getD 0 .junk), (l1.getD 1 .junk), v8, v9, v102, v103] H101)))
 (fun R3 =>
 C.aLen a1.nod.nod fun v104 =>
 C.aBin (Try.prog.underlying 3) .gtr v104.nod (I 60) fun v105 =>
 Jv (fun v106 H107 =>
 R3 [a0, a1, v106] H107)
 (fun R108 =>
 aG v105.nod false (
 C.callE 46 [a0.nod.nod, a1.nod.nod] H fun v109 H110 =>
 C.aUn .not v109.nod fun v111 =>
 R108 v111.nod H110) (
 R108 (B true) H)))
theorem wf13 : (Nat.ble 2 Try.f13.ntmps && wfC an13 Try.f13.ntmps (Try.f13.body.getD .skip)) = true := by kernel_rfl
theorem tie13 (C : Cb) (a0 a1 : V) (H : Hp) (R : List V → Hp → Prop) : wpG Try.prog C an13 (Try.f13.body.getD .skip) (argF [a0, a1]) H (retG Try.prog C Try.f13 R) (fun _ _ _ => False) (retG Try.prog C Try.f13 R) = vc13 C a0 a1 H R := by kernel_rfl
theorem mk13 (a0 a1 : V) {H : Hp} {v : V} {H1 : Hp} (hd : v.Nd) (hn : H.length ≤ H1.length) (hb : H1 = H ∨ ∀ (b : Nat) (blk : Blk), H1[b]? = some blk → H[b]? = some blk ∨ BelB H1.length blk) (h : vc13 (real Try.prog) a0 a1 H (retF v H1)) : Ret Try.prog 13 [a0, a1] H v H1 :=
 ret_mk (an := an13) hm Try.call13 Try.func13 rfl wf13 hd hn hb (Eq.mpr (tie13 (real Try.prog) a0 a1 H (retF v H1)) h)
theorem mkE13 (a0 a1 : V) {H : Hp} {Q : V → Hp → Prop} (h : vc13 (real Try.prog) a0 a1 H (retW Q)) : RetE Try.prog 13 [a0, a1] H Q :=
 retE_mk (an := an13) hm Try.call13 Try.func13 rfl wf13 (Eq.mpr (tie13 (real Try.prog) a0 a1 H (retW Q)) h)
theorem mko13 (a0 a1 : V) {H : Hp} {xs : List V} {H1 : Hp} (hn : H.length ≤ H1.length) (hb : H1 = H ∨ ∀ (b : Nat) (blk : Blk), H1[b]? = some blk → H[b]? = some blk ∨ BelB H1.length blk) (h : vc13 (real Try.prog) a0 a1 H (retO xs H1)) : Ret Try.prog 13 [a0, a1] H (.arr xs .own) H1 :=
 ret_mko (an := an13) (t := 4) hm Try.call13 Try.func13 rfl wf13 rfl hn hb (Eq.mpr (tie13 (real Try.prog) a0 a1 H (retO xs H1)) h)
end Go.Proofs.Ytlnjhnemmemloaa
set_option linter.unusedSimpArgs false
set_option linter.unnecessarySimpa false
set_option maxHeartbeats 2000000
namespace Go.Proofs.Ytlnjhnemmemloaa
open Go Go.Ab Go.Proofs
attribute [local congr] g_bin g_nilS g_nilP g_un g_ext g_bx g_fa g_ld g_st g_ix g_ixA g_slc g_mk g_bs g_bd g_nc g_cv g_len g_lenT g_app g_appB g_cpy g_mm g_call g_callG g_calm g_calmG g_range g_res g_pick g_cond g_loop g_Jv g_eqS g_eqP g_fd g_ixT g_ta g_lkp g_upd g_mkM g_appS g_inv g_callE g_callEG g_invE g_zr g_wr
def seenV (o : List Int) (n i : Nat) : List V := (List.range n).map fun j : Nat => B (decide ((j : Int) ∈ o.take i))
theorem seenV_len (o : List Int) (n i : Nat) : (seenV o n i).length = n := by unfold seenV; simp
theorem seenV_get (o : List Int) {n i j : Nat} (h : j < n) : (seenV o n i).getD j .junk = B (decide ((j : Int) ∈ o.take i)) := by
 unfold seenV
 rw [List.getD_eq_getElem?_getD, List.getElem?_map, List.getElem?_range h]; rfl
theorem seenV_0 (o : List Int) (n : Nat) : seenV o n 0 = List.replicate n (B false) := by
 refine List.ext_getElem (by rw [seenV_len, List.length_replicate]) fun j h1 h2 => ?_
 rw [List.getElem_replicate]
 unfold seenV
 simp
theorem seenV_s (o : List Int) {n i : Nat} (hi : i < o.length) {k : Nat} (hk : o.getD i 0 = k) (hn : k < n) : (seenV o n i).set k (B true) = seenV o n (i + 1) := by
 refine List.ext_getElem (by rw [List.length_set, seenV_len, seenV_len]) fun j h1 h2 => ?_
 rw [seenV_len] at h2
 rw [List.getElem_set]
 have e : o.take (i + 1) = o.take i ++ [(k : Int)] := by rw [take_snocA o 0 hi, hk]
 unfold seenV
 simp only [e, List.getElem_map, List.getElem_range, List.mem_append, List.mem_singleton]
 split
 ·rename_i e
  subst e
  simp
 ·rename_i e
  have : ¬ ((j : Int) = (k : Int)) := by omega
  simp [this]
theorem st_bo {b o : Nat} {t : Bool} {cs : List V} {H : Hp} {KH : V → Hp → Prop} (h : H[b]? = some (.cells cs)) (ho : o < cs.length) : aSt 1 (.ptr b o) (B t) H KH = KH .junk (H.set b (.cells (cs.set o (B t)))) := by
 rw [st_at h]
 have e : okE 1 (stV (B t)) = True := eq_true ⟨rfl, fun c hc => by
  have hc' : c ∈ [B t] := hc
  rw [List.mem_singleton.1 hc']; rfl⟩
 have e2 : spl cs o (stV (B t)).cl = cs.set o (B t) := by
  show cs.take o ++ [B t] ++ cs.drop (o + 1) = _
  rw [List.set_eq_take_append_cons_drop, if_pos ho, List.append_assoc]; rfl
 rw [e, e2]
 exact propext ⟨fun h => h.2.2, fun h => ⟨by omega, trivial, h⟩⟩
theorem c13 (pw : Int) (l : List Jb) (H : Hp) (w1 : l.length ≤ 9223372036854775807) : Ret Try.prog 13 [I pw, .arr (l.map jbV) .no] H (B true) H := by
 refine mk13 _ _ rfl (Nat.le_refl _) (.inl rfl) ?_
 simp only [vc13, real]
 repeat (first | (with_reducible first | refine Ju.go ?_ | (refine Hd.go ?_; intro K Q hK hQ; simp only [nod_arr, nd_no, e_lenA, List.length_map, nod_imm, Try.underlying3, e_gtr, e_gF]; subst hK hQ) | refine Jr.go ?_) | refine sd ?_)
 generalize hR : Rn _ = R
 have kn : R [I pw, .arr (l.map jbV) .no, B true] H := by
  subst hR
  repeat (first | (with_reducible first | refine Ju.go ?_ | (refine Hd.go ?_; intro K Q hK hQ; simp only [List.getD_cons_succ, List.getD_cons_zero, nod_imm, e_cond, if_true]; subst hK hQ) | refine Jr.go ?_) | refine sd ?_)
  refine call_of (c15x _) ?_
  repeat (first | (with_reducible first | refine Ju.go ?_ | (refine Hd.go ?_; intro K Q hK hQ; simp only []; subst hK hQ) | refine Jr.go ?_) | refine sd ?_)
  exact end1 (fzI _)
 have key : okJs pw l = true → l.length ≤ 60 → R [I pw, .arr (l.map jbV) .no, B false] H := by
  intro ok h60
  clear kn
  subst hR
  have hO := ordL_ok l
  have hol := hO.len
  have okS := okJs_srt ok hO
  have c2 := c44 pw l H w1
  have c3 := c45 pw l H w1 (fun _ => h60)
  unfold ordV at c3
  rw [ok] at c2 c3
  rw [if_pos rfl] at c2 c3
  have c6 := fun H => c44 pw (srtJ l (ordL l)) H (by rw [srtJ_len]; omega)
  rw [okS, if_pos rfl] at c6
  cases hT : inT pw (srtJ l (ordL l))
  ·have hI : inT pw l = false := by
    cases h : inT pw l with
    | false => rfl
    | true => rw [edf ok h] at hT; cases hT
   rw [hT, if_neg (by decide)] at c3
   rw [hI] at c2
   repeat (first | (with_reducible first | refine Ju.go ?_ | (refine Hd.go ?_; intro K Q hK hQ; simp only [List.getD_cons_succ, List.getD_cons_zero, nod_imm, e_cond, Bool.false_eq_true, if_false, nod_arr, nd_no]; subst hK hQ) | refine Jr.go ?_) | refine sd ?_)
   refine call_of c2 ?_
   repeat (first | (with_reducible first | refine Ju.go ?_ | (refine Hd.go ?_; intro K Q hK hQ; simp only [Bool.and_false, nod_tup, List.map_cons, nod2_imm, List.map_nil, e_x20, e_x21, List.getD_cons_zero, nod_imm, List.getD_cons_succ, nod_arr, nd_no]; subst hK hQ) | refine Jr.go ?_) | refine sd ?_)
   refine call_of c3 ?_
   repeat (first | (with_reducible first | refine Ju.go ?_ | (refine Hd.go ?_; intro K Q hK hQ; simp only [nod_tup, List.map_cons, nod2_ints, nd_no, nod2_imm, List.map_nil, e_x20, e_x21, List.getD_cons_zero, List.getD_cons_succ, nod_imm, Try.underlying30, e_neq, decide_true, Bool.not_true, nod_nod, Int.reduceEq, decide_false, Bool.not_false, e_gT, cond_false, true_and, e_gF, j_one, e_cond, Bool.false_eq_true, if_false, if_true, e_eql, cond_true]; subst hK hQ) | refine Jr.go ?_) | refine sd ?_)
   refine call_of (c15x _) ?_
   repeat (first | (with_reducible first | refine Ju.go ?_ | (refine Hd.go ?_; intro K Q hK hQ; simp only [nod_imm]; subst hK hQ) | refine Jr.go ?_) | refine sd ?_)
   exact end1 (fzI _)
  ·rw [hT, if_pos rfl] at c3
   simp only [hT] at c6
   have hd : (inT pw l && false) = false := by cases inT pw l <;> rfl
   repeat (first | (with_reducible first | refine Ju.go ?_ | (refine Hd.go ?_; intro K Q hK hQ; simp only [List.getD_cons_succ, List.getD_cons_zero, nod_imm, e_cond, Bool.false_eq_true, if_false, nod_arr, nd_no]; subst hK hQ) | refine Jr.go ?_) | refine sd ?_)
   refine call_of c2 ?_
   repeat (first | (with_reducible first | refine Ju.go ?_ | (refine Hd.go ?_; intro K Q hK hQ; simp only [Bool.true_and, nod_tup, List.map_cons, nod2_imm, List.map_nil, e_x20, e_x21, List.getD_cons_zero, nod_imm, List.getD_cons_succ, nod_arr, nd_no]; subst hK hQ) | refine Jr.go ?_) | refine sd ?_)
   refine call_of c3 ?_
   repeat (first | (with_reducible first | refine Ju.go ?_ | (refine Hd.go ?_; intro K Q hK hQ; simp only [nod_tup, List.map_cons, nod2_ints, nd_no, nod2_imm, List.map_nil, e_x20, e_x21, List.getD_cons_zero, List.getD_cons_succ, nod_imm, Try.underlying30, e_neq, decide_true, Bool.not_true, nod_nod, e_gT, j_and', hd, true_and, e_gF, cond_false, j_one, e_cond, Bool.false_eq_true, if_false, nod_arr, e_lenA, List.length_map, Int.toNat_natCast, cl_imm, lv_cons, List.length_nil, Nat.zero_add]; subst hK hQ) | refine Jr.go ?_) | refine sd ?_)
   have hN : (ordL l).Nodup := (hO.p.nodup_iff).2 (List.pairwise_map.2 ((List.nodup_range (n := l.length)).imp fun h e => h (Int.ofNat.inj e)))
   refine loop_of (fun i : Nat => i ≤ l.length) (fun i => [I pw, .arr (l.map jbV) .no, ints (ordL l) .no, .sl H.length 0 l.length l.length 1, .arr ((srtJ l ((ordL l).take i)).map jbV) (oF i), I i]) (fun i => H ++ [.cells (seenV (ordL l) l.length i)]) (fun i => l.length - i) 0 (Nat.zero_le _) (by rw [List.take_zero]; rfl) (by rw [seenV_0]; simp) ?_
   intro i hi
   have hE : (H ++ [Blk.cells (seenV (ordL l) l.length i)])[H.length]? = some (.cells (seenV (ordL l) l.length i)) := tail0 _ _
   have hsl := seenV_len (ordL l) l.length i
   repeat (first | (with_reducible first | refine Ju.go ?_ | (refine Hd.go ?_; intro K Q hK hQ; simp only [List.getD_cons_succ, List.getD_cons_zero, nod_ints, nd_no, e_len, nod_imm, Try.underlying3, e_lss, e_cond, decide_eq_true_eq]; subst hK hQ) | refine Jr.go ?_) | refine sd ?_)
   by_cases hlt : i < l.length
   ·have d0 : (i : Int) < (ordL l).length := by omega
    have d1 : i < (ordL l).length := by omega
    obtain ⟨x0, x1⟩ := hO.mem (hMem (ordL l) d1)
    have r1 : R64 ((i : Int) + 1) := by unfold R64; omega
    obtain ⟨k, hk⟩ : ∃ k : Nat, (ordL l).getD i 0 = k := ⟨((ordL l).getD i 0).toNat, by omega⟩
    have hkl : k < l.length := by omega
    have dk : (k : Int) < l.length := by omega
    have dk0 : ¬ (k : Int) < 0 := by omega
    have dk1 : ¬ (l.length : Int) ≤ k := by omega
    have dk2 : (0 : Int) ≤ k := by omega
    have hks : k < (seenV (ordL l) l.length i).length := by omega
    have es := srtJ_snoc l (ordL l) d1
    rw [hk, Int.toNat_natCast] at es
    have hl0 : (srtJ l ((ordL l).take i)).length ≤ 1000000 := by rw [srtJ_len, List.length_take]; omega
    have hg : (seenV (ordL l) l.length i).getD k .junk = B false := by
     rw [seenV_get _ hkl]
     have : ¬ ((k : Int) ∈ (ordL l).take i) := fun hm => by
      obtain ⟨q, hq, eq⟩ := List.mem_iff_getElem.1 hm
      rw [List.getElem_take] at eq
      rw [List.length_take] at hq
      have e2 : (ordL l)[i] = (k : Int) := by rw [← hk, List.getD_eq_getElem?_getD, List.getElem?_eq_getElem d1]; rfl
      exact List.pairwise_iff_getElem.1 hN q i (by omega) d1 (by omega) (eq.trans e2.symm)
     rw [decide_eq_false this]
    have hset := seenV_s (ordL l) (n := l.length) d1 hk hkl
    repeat (first | (with_reducible first | refine Ju.go ?_ | (refine Hd.go ?_; intro K Q hK hQ; simp only [d0, if_true, List.getD_cons_succ, List.getD_cons_zero, nod_ints, nd_no, nod_imm, e_ix, Int.toNat_natCast, hk, true_and, nod_cptr, e_ldc, Try.underlying3, e_lss, dk0, decide_false, nod_arr, e_lenA, List.length_map, e_geq, dk1, e_gF, cond_false, j_side, j_one, nod_sl, e_ixS, dk2, dk, Nat.mul_one, Nat.zero_add, nod_ptr, ld_at hE, hg, e_cond, Bool.false_eq_true, if_false]; subst hK hQ) | refine Jr.go ?_) | refine sd ?_)
    rw [st_bo hE hks]
    have hs2 : (H ++ [Blk.cells (seenV (ordL l) l.length i)]).set H.length (.cells ((seenV (ordL l) l.length i).set k (B true))) = H ++ [.cells (seenV (ordL l) l.length (i + 1))] := by
     rw [hset, List.set_append_right _ _ (Nat.le_refl _), Nat.sub_self]; rfl
    rw [hs2]
    repeat (first | (with_reducible first | refine Ju.go ?_ | (refine Hd.go ?_; intro K Q hK hQ; simp only [List.getD_cons_succ, List.getD_cons_zero, nod_ints, nd_no, nod_imm, e_ix, d0, Int.toNat_natCast, hk, true_and, nod_cptr, e_ldc, nod_arr, ix_jb, dk2, dk, e_ldcA, lv_cons, List.length_nil, Nat.zero_add, Nat.reduceAdd, nod_agg, List.map_cons, nodL_imm, List.map_nil]; subst hK hQ) | refine Jr.go ?_) | refine sd ?_)
    refine Eq.mpr (bs_jb _ _ _) ?_
    refine Eq.mpr (e_appE jbV (fun _ => rfl) 16 (srtJ l ((ordL l).take i)) [l.getD k default] (oF i) .full) ⟨oF_ap i, by simp only [List.length_singleton]; omega, ?_⟩
    rw [← es]
    repeat (first | (with_reducible first | refine Ju.go ?_ | (refine Hd.go ?_; intro K Q hK hQ; simp only [List.getD_cons_zero, List.getD_cons_succ, nod_imm, Try.underlying3, e_add, r1, true_and]; subst hK hQ) | refine Jr.go ?_) | refine sd ?_)
    exact ⟨i + 1, hlt, rfl, rfl, by omega⟩
   ·have d0 : ¬ (i : Int) < (ordL l).length := by omega
    obtain rfl : i = l.length := by omega
    have et : (ordL l).take l.length = ordL l := List.take_of_length_le (by omega)
    have hw : ∀ (xs : List V) (n : Nat), Wk (.arr xs (oF n).nd.nd) (.arr xs .no) := fun xs n => by
     cases n
     ·exact .full xs
     ·exact .refl _
    have hle : (((ordL l).length : Int) = l.length) := by omega
    repeat (first | (with_reducible first | refine Ju.go ?_ | (refine Hd.go ?_; intro K Q hK hQ; simp only [d0, if_false, List.getD_cons_zero, nod_imm, List.getD_cons_succ, nod_arr]; subst hK hQ) | refine Jr.go ?_) | refine sd ?_)
    rw [et]
    refine call_wk (c6 _) (.cons (.refl _) (.cons (hw _ _) .nil)) ?_
    repeat (first | (with_reducible first | refine Ju.go ?_ | (refine Hd.go ?_; intro K Q hK hQ; simp only [Bool.and_self, nod_tup, List.map_cons, nod2_imm, List.map_nil, e_x20, e_x21, List.getD_cons_succ, List.getD_cons_zero, nod_ints, nd_no, e_len, hle, nod_arr, e_lenA, List.length_map, nod_imm, Try.underlying3, e_eql, decide_true, Try.underlying30, e_gT, cond_true, j_one]; subst hK hQ) | refine Jr.go ?_) | refine sd ?_)
    refine call_of (c15x _) ?_
    repeat (first | (with_reducible first | refine Ju.go ?_ | (refine Hd.go ?_; intro K Q hK hQ; simp only [nod_imm]; subst hK hQ) | refine Jr.go ?_) | refine sd ?_)
    exact end1A (fzI _)
 have h46 := c46 pw l H w1
 clear hR
 by_cases h6 : 60 < (l.length : Int)
 ·repeat (first | (with_reducible first | refine Ju.go ?_ | (refine Hd.go ?_; intro K Q hK hQ; simp only [h6, decide_true, cond_true]; subst hK hQ) | refine Jr.go ?_) | refine sd ?_)
  exact kn
 ·repeat (first | (with_reducible first | refine Ju.go ?_ | (refine Hd.go ?_; intro K Q hK hQ; simp only [h6, decide_false, cond_false]; subst hK hQ) | refine Jr.go ?_) | refine sd ?_)
  refine call_of h46 ?_
  cases ok : okJs pw l
  ·repeat (first | (with_reducible first | refine Ju.go ?_ | (refine Hd.go ?_; intro K Q hK hQ; simp only [nod_imm, e_not, Bool.not_false]; subst hK hQ) | refine Jr.go ?_) | refine sd ?_)
   exact kn
  ·repeat (first | (with_reducible first | refine Ju.go ?_ | (refine Hd.go ?_; intro K Q hK hQ; simp only [nod_imm, e_not, Bool.not_true]; subst hK hQ) | refine Jr.go ?_) | refine sd ?_)
   exact key ok (by omega)
open Go.ChangeShapes Go.WideShapes Go.ChangeAt Go.RowKit
theorem own : ownKnob Try.prog.godebug = none := by kernel_rfl
theorem laidOut : laidOutB Try.prog = true := by kernel_rfl
set_option maxRecDepth 100000 in
theorem lifted (os : Os) (started : os.Started) (H : Type) (enc : TypeId × Value → H) :
    ReturnsInHanded {} Try.checked os 13 .any (Rows.streamEarliestSpec.pre6 enc Try.prog Try.f13 Rows.streamEarliestRow.domain false) (Rows.streamEarliestSpec.post enc Try.prog Try.f13 false true false false) := by
  refine returnsInHanded_of_change (C := Try.checked) own started (by kernel_rfl) Try.func13
    (ChangeSpec.witness6 (enc := enc) (C := Try.checked) false ⟨#[], #[.int .i64 0, .slice none 0 0], []⟩ 8 (by kernel_rfl) (by kernel_rfl) (by kernel_rfl) (by kernel_rfl)) ?_
  intro W base args ds gs before hval0 hW hcnd _
  have hval : ∀ (j : Nat) t v, Try.f13.params[j]? = some t → args[j]? = some v → Value.okWide Try.prog W .any base t v := hval0
  have hW' := hW
  obtain ⟨p, q, hA0, hV, rfl, hfz, hnd⟩ := hW
  have hA : DataW.TrodAll enc Try.prog W 0 (fun _ => true) true Try.f13.params.toList args.toList ds p := hA0
  rw [Try.params13] at hA hval
  obtain ⟨v0, vs0, d0, ds0, p0, q0, hargs, rfl, rfl, h0, r0⟩ := trodAll_cons hA
  obtain ⟨v1, vs1, d1, ds1, p1, q1, rfl, rfl, rfl, h1, r1⟩ := trodAll_cons r0
  obtain ⟨rfl, rfl, rfl⟩ := trodAll_nil r1
  obtain rfl : args = #[v0, v1] := by cases args; simp_all
  obtain ⟨rfl, rfl⟩ := trodVars_none hV
  have lt0 : ∀ x ∈ p0, x.block < W.heap.size := by obtain ⟨m, hm⟩ := h0; exact DataW.trod_lt m _ _ _ hm
  obtain ⟨n0, e0, w0⟩ := in_int Try.underlying3 (hval 0 _ v0 rfl rfl) h0
  have lt1 : ∀ x ∈ p1, x.block < W.heap.size := by obtain ⟨m, hm⟩ := h1; exact DataW.trod_lt m _ _ _ hm
  obtain ⟨l1, w1, e1⟩ := in_jobs (hval 1 _ v1 rfl rfl) h1
  clear hA0 hval0
  refine (bridge (args := [I n0, .arr (l1.map jbV) .no]) (ra := #[v0, v1]) (c13 n0 l1 [] w1) rfl (by intro a ha; simp at ha; rcases ha with rfl | rfl <;> rfl) (fun i => ?_)).mono fun e W' ⟨he, bel⟩ => ?_
  · match i with
    | 0 => exact e0
    | 1 => exact e1
    | i + 2 => exact .junk _
  · subst he
    exact ⟨_, rfl, _, _, _, [], _, [], hW', trodAll_mk1 (shut_bool Try.underlying4 _), (trodAll_cons_mk (Below.trod laidOut (by kernel_rfl) (of_decide_eq_true (by kernel_rfl)) h0 bel lt0) (trodAll_cons_mk (Below.trod laidOut (by kernel_rfl) (of_decide_eq_true (by kernel_rfl)) h1 bel lt1) trodAll_mk0)), rfl, bel.frame _, fun h => by cases h⟩
theorem over : Rows.streamEarliestRow.holds Try.pinned (OpenSpec.ofChange Rows.streamEarliestSpec) :=
 OpenClaim.holds_of_wide 13 Try.f13 rfl rfl rfl rfl rfl rfl rfl ⟨rfl, rfl, rfl, rfl, rfl⟩ rfl rfl rfl rfl rfl (by kernel_rfl) Try.func13 (by kernel_rfl)
  (of_decide_eq_true (by kernel_rfl)) (by unfold Func.isWrapper; first | (rw [if_pos (by decide +kernel)]; kernel_rfl) | (rw [if_neg (by decide +kernel)]; exact ⟨rfl, rfl⟩))
  (fun os started H enc _ => lifted os started H enc)
theorem streamEarliest_holds : Rows.StreamEarliestSaid := over
#print axioms streamEarliest_holds
end Go.Proofs.Ytlnjhnemmemloaa
