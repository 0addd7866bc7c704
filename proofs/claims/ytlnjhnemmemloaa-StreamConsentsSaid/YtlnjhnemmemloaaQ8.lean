/- What is heard of pieces was permitted: true for every input. -/
import Derived.Test.YtlnjhnemmemloaaP6
import Derived.Test.YtlnjhnemmemloaaProg
import Derived.Test.YtlnjhnemmemloaaRows
set_option linter.unusedVariables false
set_option maxRecDepth 20000
set_option maxHeartbeats 4000000
namespace Go.Proofs.Ytlnjhnemmemloaa
open Go Go.Ab Go.Proofs
def an8 : An := { imm := [5, 44], jn := [(4, [1, 5, 6]), (11, [1, 5, 7, 8, 9, 10]), (13, [1, 5, 7, 8, 9, 10, 11]), (20, [1, 5, 7, 8, 10, 12, 83]), (26, [5, 7, 13, 14, 15, 16])], lp := [(8, [1, 5, 7, 8]), (12, [1, 5, 7, 8, 9, 10, 11]), (17, [1, 5, 7, 8, 10, 12]), (23, [5, 7, 13, 14])], loud := [44], ord := [] }
def vc8 (C : Cb) (a0 a1 : V) (H : Hp) (R : List V → Hp → Prop) : Prop :=
 C.callE 33 [a0.nod.nod, a1.nod.nod, (I 20)] H fun v1 H2 =>
 C.aUn .not v1.nod fun v3 =>
 aCond v3.nod (
 C.callE 15 [] H2 fun v4 H5 =>
 R [v4] H5) (
 Jn (fun l6 H7 =>
 C.aUn .not (l6.getD 2 .junk).nod.nod fun v9 =>
 aCond v9.nod (
 R [(B false)] H7) (
 LoopA (fun l10 H11 K12 =>
 C.aLen (l10.getD 0 .junk).nod.nod fun v13 =>
 C.aBin (Try.prog.underlying 3) .lss (l10.getD 3 .junk).nod.nod v13.nod fun v14 =>
 aCond v14.nod (
 Jn (fun l15 H16 =>
 LoopA (fun l18 H19 K20 =>
 C.aLen (l18.getD 4 .junk).nod.nod fun v21 =>
 C.aBin (Try.prog.underlying 3) .lss (l18.getD 6 .junk).nod.nod v21.nod fun v22 =>
 aCond v22.nod (
 Jn (fun l23 H24 =>
 C.aBin (Try.prog.underlying 3) .add (l23.getD 6 .junk).nod.nod (I 1) fun v26 =>
 K20 [(l23.getD 0 .junk), (l23.getD 1 .junk), (l23.getD 2 .junk), (l23.getD 3 .junk), (l23.getD 4 .junk), (l23.getD 5 .junk), v26] H24)
 (fun R25 =>
 C.aIx 1 (l18.getD 4 .junk).nod.nod (l18.getD 6 .junk).nod.nod fun v27 =>
 C.aLd 1 false false v27.nod H19 fun v28 H29 =>
 C.aBin (Try.prog.underlying 3) .neq v28.nod (I 0) fun v30 =>
 aCond v30.nod (
 C.aBin (Try.prog.underlying 3) .add (l18.getD 2 .junk).nod.nod (I 1) fun v31 =>
 R25 [(l18.getD 0 .junk), (l18.getD 1 .junk), v31, (l18.getD 3 .junk), (l18.getD 4 .junk), (l18.getD 5 .junk), (l18.getD 6 .junk)] H29) (
 R25 [(l18.getD 0 .junk), (l18.getD 1 .junk), (l18.getD 2 .junk), (l18.getD 3 .junk), (l18.getD 4 .junk), (l18.getD 5 .junk), (l18.getD 6 .junk)] H29))) (
 LoopA (fun l32 H33 K34 =>
 C.aLen (l32.getD 4 .junk).nod.nod fun v35 =>
 C.aBin (Try.prog.underlying 3) .lss (l32.getD 5 .junk).nod.nod v35.nod fun v36 =>
 aCond v36.nod (
 Jn (fun l37 H38 =>
 aCond (l37.getD 6 .junk).nod (
 R [(B false)] H38) (
 C.aBin (Try.prog.underlying 3) .add (l37.getD 5 .junk).nod.nod (I 1) fun v40 =>
 K34 [(l37.getD 0 .junk), (l37.getD 1 .junk), (l37.getD 2 .junk), (l37.getD 3 .junk), (l37.getD 4 .junk), v40] H38))
 (fun R39 =>
 C.aIx 4 (l32.getD 4 .junk).nod.nod (l32.getD 5 .junk).nod.nod fun v41 =>
 C.aFA 0 1 false v41.nod fun v42 =>
 C.aLd 1 false false v42.nod H33 fun v43 H44 =>
 C.aBin (Try.prog.underlying 57) .eql v43.nod (I 1) fun v45 =>
 Jv (fun v46 H47 =>
 R39 [(l32.getD 0 .junk), (l32.getD 1 .junk), (l32.getD 2 .junk), (l32.getD 3 .junk), (l32.getD 4 .junk), (l32.getD 5 .junk), v46] H47)
 (fun R48 =>
 aG v45.nod true (
 C.aFA 2 1 false (l32.getD 1 .junk).nod fun v49 =>
 C.aLd 1 false false v49.nod H44 fun v50 H51 =>
 C.aNC v50.nod fun v52 =>
 C.aFA 0 1 false v52.nod fun v53 =>
 C.aLd 1 false false v53.nod H51 fun v54 H55 =>
 C.aNC v54.nod fun v56 =>
 C.aFA 0 1 false v56.nod fun v57 =>
 C.aLd 1 false false v57.nod H55 fun v58 H59 =>
 C.aLen v58.nod fun v60 =>
 C.aBin (Try.prog.underlying 3) .eql v60.nod (I 0) fun v61 =>
 R48 v61.nod H59) (
 R48 (B false) H44)))) (
 C.aBin (Try.prog.underlying 3) .add (l32.getD 3 .junk).nod.nod (I 1) fun v62 =>
 K12 [(l32.getD 0 .junk), (l32.getD 1 .junk), (l32.getD 2 .junk), v62] H33))
 [(l18.getD 0 .junk), (l18.getD 1 .junk), (l18.getD 2 .junk), (l18.getD 3 .junk), (l18.getD 5 .junk), (I 0)] H19))
 [(l15.getD 0 .junk), (l15.getD 1 .junk), (l15.getD 2 .junk), (l15.getD 3 .junk), (l15.getD 4 .junk), (l15.getD 5 .junk), (I 0)] H16)
 (fun R17 =>
 C.aFA 1 1 false (l10.getD 1 .junk).nod fun v63 =>
 C.aLd 1 false false v63.nod H11 fun v64 H65 =>
 C.aFA 0 1 false (l10.getD 1 .junk).nod fun v66 =>
 C.aLd 1 false false v66.nod H65 fun v67 H68 =>
 C.aIx 10 (l10.getD 0 .junk).nod.nod (l10.getD 3 .junk).nod.nod fun v69 =>
 C.aLd 10 true false v69.nod H68 fun v70 H71 =>
 C.callE 34 [v64.nod, v67.nod, v70.nod, (I 100)] H71 fun v72 H73 =>
 C.aExt 0 v72.nod.nod fun v74 =>
 C.aExt 1 v72.nod.nod fun v75 =>
 R17 [(l10.getD 0 .junk), (l10.getD 1 .junk), (l10.getD 2 .junk), (l10.getD 3 .junk), v74, v75] H73)) (
 LoopA (fun l76 H77 K78 =>
 C.aFA 2 1 false (l76.getD 0 .junk).nod fun v79 =>
 C.aLd 1 false false v79.nod H77 fun v80 H81 =>
 C.aNC v80.nod fun v82 =>
 C.aFA 0 1 false v82.nod fun v83 =>
 C.aLd 1 false false v83.nod H81 fun v84 H85 =>
 C.aNC v84.nod fun v86 =>
 C.aFA 0 1 false v86.nod fun v87 =>
 C.aLd 1 false false v87.nod H85 fun v88 H89 =>
 C.aLen v88.nod fun v90 =>
 C.aBin (Try.prog.underlying 3) .lss (l76.getD 3 .junk).nod.nod v90.nod fun v91 =>
 aCond v91.nod (
 Jn (fun l92 H93 =>
 C.aBin (Try.prog.underlying 30) .neq (l92.getD 5 .junk).nod.nod (I 0) fun v95 =>
 aCond v95.nod (
 R [(B false)] H93) (
 C.aBin (Try.prog.underlying 3) .add (l92.getD 2 .junk).nod.nod (l92.getD 4 .junk).nod.nod fun v96 =>
 C.aBin (Try.prog.underlying 3) .add (l92.getD 3 .junk).nod.nod (I 1) fun v97 =>
 K78 [(l92.getD 0 .junk), (l92.getD 1 .junk), v96, v97] H93))
 (fun R94 =>
 C.aFA 0 1 false (l76.getD 0 .junk).nod fun v98 =>
 C.aLd 1 false false v98.nod H89 fun v99 H100 =>
 C.callE 29 [v99.nod, (l76.getD 3 .junk).nod.nod] H100 fun v101 H102 =>
 C.aExt 0 v101.nod.nod fun v103 =>
 C.aExt 1 v101.nod.nod fun v104 =>
 R94 [(l76.getD 0 .junk), (l76.getD 1 .junk), (l76.getD 2 .junk), (l76.getD 3 .junk), v103, v104] H102)) (
 C.aBin (Try.prog.underlying 3) .leq (l76.getD 1 .junk).nod.nod (l76.getD 2 .junk).nod.nod fun v105 =>
 Jv (fun v106 H107 =>
 R [v106] H107)
 (fun R108 =>
 aG v105.nod true (
 C.callE 15 [] H89 fun v109 H110 =>
 R108 v109.nod H110) (
 R108 (B false) H89))))
 [(l10.getD 1 .junk), (l10.getD 2 .junk), (I 0), (I 0)] H11))
 [(l6.getD 0 .junk), (l6.getD 1 .junk), (I 0), (I 0)] H7))
 (fun R8 =>
 C.callE 21 [a0.nod.nod] H2 fun v111 H112 =>
 C.aExt 0 v111.nod.nod fun v113 =>
 C.aExt 1 v111.nod.nod fun v114 =>
 C.aBx true 3 v113.nod H112 fun v115 H116 =>
 R8 [a1, v115, v114] H116))
theorem wf8 : (Nat.ble 2 Try.f8.ntmps && wfC an8 Try.f8.ntmps (Try.f8.body.getD .skip)) = true := by kernel_rfl
theorem tie8 (C : Cb) (a0 a1 : V) (H : Hp) (R : List V → Hp → Prop) : wpG Try.prog C an8 (Try.f8.body.getD .skip) (argF [a0, a1]) H (retG Try.prog C Try.f8 R) (fun _ _ _ => False) (retG Try.prog C Try.f8 R) = vc8 C a0 a1 H R := by kernel_rfl
theorem mk8 (a0 a1 : V) {H : Hp} {v : V} {H1 : Hp} (hd : v.Nd) (hn : H.length ≤ H1.length) (hb : H1 = H ∨ ∀ (b : Nat) (blk : Blk), H1[b]? = some blk → H[b]? = some blk ∨ BelB H1.length blk) (h : vc8 (real Try.prog) a0 a1 H (retF v H1)) : Ret Try.prog 8 [a0, a1] H v H1 :=
 ret_mk (an := an8) hm Try.call8 Try.func8 rfl wf8 hd hn hb (Eq.mpr (tie8 (real Try.prog) a0 a1 H (retF v H1)) h)
theorem mkE8 (a0 a1 : V) {H : Hp} {Q : V → Hp → Prop} (h : vc8 (real Try.prog) a0 a1 H (retW Q)) : RetE Try.prog 8 [a0, a1] H Q :=
 retE_mk (an := an8) hm Try.call8 Try.func8 rfl wf8 (Eq.mpr (tie8 (real Try.prog) a0 a1 H (retW Q)) h)
theorem mko8 (a0 a1 : V) {H : Hp} {xs : List V} {H1 : Hp} (hn : H.length ≤ H1.length) (hb : H1 = H ∨ ∀ (b : Nat) (blk : Blk), H1[b]? = some blk → H[b]? = some blk ∨ BelB H1.length blk) (h : vc8 (real Try.prog) a0 a1 H (retO xs H1)) : Ret Try.prog 8 [a0, a1] H (.arr xs .own) H1 :=
 ret_mko (an := an8) (t := 4) hm Try.call8 Try.func8 rfl wf8 rfl hn hb (Eq.mpr (tie8 (real Try.prog) a0 a1 H (retO xs H1)) h)
end Go.Proofs.Ytlnjhnemmemloaa
set_option linter.unusedSimpArgs false
set_option linter.unnecessarySimpa false
set_option maxHeartbeats 2000000
namespace Go.Proofs.Ytlnjhnemmemloaa
open Go Go.Ab Go.Proofs
attribute [local congr] g_bin g_nilS g_nilP g_un g_ext g_bx g_fa g_ld g_st g_ix g_ixA g_slc g_mk g_bs g_bd g_nc g_cv g_len g_lenT g_app g_appB g_cpy g_mm g_call g_callG g_calm g_calmG g_range g_res g_pick g_cond g_loop g_Jv g_eqS g_eqP g_fd g_ixT g_ta g_lkp g_upd g_mkM g_appS g_inv g_callE g_callEG g_invE g_zr g_wr
structure Spk (H G : Hp) (gs0 : List Gr) (sb rb wb bW : Nat) (a : Ad) (m : Mo) : Prop where
 sp : SpAt G sb a m
 hi : ∀ c, SpS sb a m c → H.length ≤ c
 lo : ∀ c, c < H.length → G[c]? = H[c]?
 ln : H.length ≤ G.length
 rs : G[rb]? = some (.cells (rs0 wb))
 rf : RfAt G wb bW gs0
 d1 : ¬ SpS sb a m rb
 d2 : ∀ c, RfB wb bW gs0 c → ¬ SpS sb a m c
theorem Spk.step {H G G' : Hp} {gs0 : List Gr} {sb rb wb bW : Nat} {a a' : Ad} {m m' : Mo} (h : Spk H G gs0 sb rb wb bW a m) (k : Stp G G' sb a m a' m') : Spk H G' gs0 sb rb wb bW a' m' := by
 refine ⟨k.s, fun c hc => ?_, fun c hc => ?_, Nat.le_trans h.ln k.h.1, ?_, h.rf.fr k.h h.d2, fun e => h.d1 (k.f rb (get_lt h.rs) e), fun c hc e => h.d2 c hc (k.f c (h.rf.lt hc) e)⟩
 ·by_cases hl : c < G.length
  ·exact h.hi c (k.f c hl hc)
  ·have := h.ln; omega
 ·rw [k.h.2 c (by have := h.ln; omega) (fun hs => by have := h.hi c hs; omega)]
  exact h.lo c hc
 ·rw [k.h.2 rb (get_lt h.rs) h.d1]; exact h.rs
theorem Spk.mk' {H H' : Hp} {gs : List Gr} {lb sb rb wb bW : Nat} {a : Ad} (h : Beg H H' gs lb sb rb wb bW a) : Spk H H' gs sb rb wb bW a (mo0 gs) :=
 ⟨h.sp, h.hi, fun c hc => h.fr.2 c hc fun e => e, h.fr.1, h.rs, h.rf, h.d1, h.d2⟩
theorem c8 (gr : List Gn) (l : List Ac) (H : Hp) (w0 : gr.length ≤ 9223372036854775807) (w1 : l.length ≤ 9223372036854775807 ∧ ∀ a, a ∈ l → Sm a.p) : Ret Try.prog 8 [.arr (gr.map gnV) .no, .arr (l.map acV) .no] H (B true) H := by
 refine mk8 _ _ rfl (Nat.le_refl _) (.inl rfl) ?_
 simp only [vc8, real]
 repeat (first | (with_reducible first | refine Ju.go ?_ | (refine Hd.go ?_; intro K Q hK hQ; simp only [nod_arr, nd_no]; subst hK hQ) | refine Jr.go ?_) | refine sd ?_)
 refine call_of (c33 gr l 20 _ w0 w1.1 w1.2) ?_
 cases hf : fitB gr.length l.length 20 l
 ·repeat (first | (with_reducible first | refine Ju.go ?_ | (refine Hd.go ?_; intro K Q hK hQ; simp only [nod_imm, e_not, Bool.not_false, e_cond, if_true]; subst hK hQ) | refine Jr.go ?_) | refine sd ?_)
  refine call_of (c15x _) ?_
  repeat (first | (with_reducible first | refine Ju.go ?_ | (refine Hd.go ?_; intro K Q hK hQ; simp only []; subst hK hQ) | refine Jr.go ?_) | refine sd ?_)
  exact end1 (fzI _)
 ·unfold fitB at hf
  simp only [Bool.and_eq_true, Bool.not_eq_true', Bool.or_eq_false_iff, decide_eq_false_iff_not] at hf
  have hgl : gr.length ≤ 8 := by omega
  have hll : l.length ≤ 20 := by omega
  repeat (first | (with_reducible first | refine Ju.go ?_ | (refine Hd.go ?_; intro K Q hK hQ; simp only [nod_imm, e_not, Bool.not_true, e_cond, Bool.false_eq_true, if_false, nod_arr, nd_no]; subst hK hQ) | refine Jr.go ?_) | refine sd ?_)
  refine callE_of (c21 gr _ hgl) ?_
  rintro v G1 ⟨lb, sb, rb, wb, bW, a1, rfl, B1⟩
  have S1 := Spk.mk' B1
  have hlb := B1.lb
  have hsg : sumG (gsOf gr) = 0 := by
   have : ∀ l : List Gr, (∀ g, g ∈ l → g.ud = 0) → sumG l = 0 := by
    intro l hl
    induction l with
    | nil => rfl
    | cons x l ih =>
     have := ih fun g hg => hl g (by simp [hg])
     have h2 := hl x (by simp)
     unfold sumG at this ⊢
     simp only [List.map_cons, List.sum_cons, this, h2]
     rfl
   refine this _ fun g hg => ?_
   unfold gsOf at hg
   obtain ⟨y, -, rfl⟩ := List.mem_map.1 hg
   rfl
  have hgs := gsOf_len gr
  clear B1
  repeat (first | (with_reducible first | refine Ju.go ?_ | (refine Hd.go ?_; intro K Q hK hQ; simp only [nod_tup, List.map_cons, nod2_agg, nodL_ptr, List.map_nil, nod2_imm, e_x20, e_x21, nod_agg, e_bxI, okE_agg, lv_cons, List.length_nil, Nat.zero_add, Nat.reduceAdd, all_c, ck_ptr, all_n, Bool.and_self, and_true, true_and, List.getD_cons_succ, List.getD_cons_zero, nod_imm, e_not, Bool.not_true, e_cond, Bool.false_eq_true, if_false]; subst hK hQ) | refine Jr.go ?_) | refine sd ?_)
  refine loop_of (fun q : Nat × Nat × Ad × Mo × Hp => q.1 ≤ l.length ∧ q.2.1 ≤ 100 * q.1 ∧ q.2.2.1.lb = lb ∧ Spk H q.2.2.2.2 (gsOf gr) sb rb wb bW q.2.2.1 q.2.2.2.1 ∧ Mok q.2.2.2.1 ∧ Con q.2.1 q.2.2.2.1 ∧ q.2.2.2.1.gs.length = (gsOf gr).length ∧ q.2.2.2.1.q.length ≤ q.1 ∧ 0 ≤ q.2.2.2.1.nx ∧ q.2.2.2.1.nx ≤ q.1 ∧ q.2.2.2.1.ck ≤ 100 * q.1) (fun q => [.arr (l.map acV) .no, .cptr (.agg [.ptr lb 0, .ptr sb 0, .ptr rb 0]), I q.2.1, I q.1]) (·.2.2.2.2) (fun q => l.length - q.1) (0, 0, a1, mo0 (gsOf gr), G1) ⟨Nat.zero_le _, Nat.zero_le _, hlb, S1, mo0_Mok hgl, ⟨by show ((0 : Nat) : Int) + (0 : Nat) ≤ sumG (gsOf gr); rw [hsg]; decide⟩, rfl, Nat.zero_le _, Int.le_refl _, Int.le_refl _, Int.le_refl _⟩ rfl rfl ?_
  clear S1 hlb
  rintro ⟨i, L, a, m, G⟩ ⟨hi, hL, hlb, hS, hM, hC, hg, hq, hn0, hn1, hck⟩
  simp only at hi hL hlb hS hM hC hg hq hn0 hn1 hck ⊢
  repeat (first | (with_reducible first | refine Ju.go ?_ | (refine Hd.go ?_; intro K Q hK hQ; simp only [List.getD_cons_zero, nod_arr, nd_no, e_lenA, List.length_map, List.getD_cons_succ, nod_imm, Try.underlying3, e_lss, e_cond, decide_eq_true_eq]; subst hK hQ) | refine Jr.go ?_) | refine sd ?_)
  by_cases hlt : i < l.length
  ·have d : (i : Int) < l.length := by omega
   have hs := w1.2 _ (getD_memA l default hlt)
   obtain ⟨c1, c2, c3, c4, c5, c6, c7, c8⟩ := con_act (l.getD i default) hC
   repeat (first | (with_reducible first | refine Ju.go ?_ | (refine Hd.go ?_; intro K Q hK hQ; simp only [d, if_true, List.getD_cons_succ, List.getD_cons_zero, nod_cptr, e_fac, Nat.reduceAdd, lv_cons, List.length_nil, Nat.zero_add, Nat.reduceLeDiff, true_and, e_ldcP, nod_arr, nd_no, nod_imm, ix_ac, Int.toNat_natCast, e_ldcA, nod_ptr, nod_agg, List.map_cons, nodL_imm, nodL_ints, nodL_arr, List.map_nil]; subst hK hQ) | refine Jr.go ?_) | refine sd ?_)
   rw [← hlb]
   refine callE_of (c34 (l.getD i default) 100 hS.sp hM hs (by omega) ⟨hn0, by omega⟩ (by omega) (by decide)) ?_
   rintro v G2 ⟨f, g, hf1, hg1, rfl, ⟨a2, st⟩, hM2, hnl⟩
   have hS2 := hS.step st
   have hlb2 := st.lk.trans hlb
   clear st hS
   generalize actX (l.getD i default) m = xs at *
   generalize actN (l.getD i default) m = ns at *
   generalize mAct (l.getD i default) m = m2 at *
   rw [hlb]
   have q1 := nd_of hf1
   have q2 := nd_of hg1
   have n2 : (V.arr (ns.map nwV) g).nod2 = .arr (ns.map nwV) g := by rcases hg1 with rfl | rfl <;> rfl
   repeat (first | (with_reducible first | refine Ju.go ?_ | (refine Hd.go ?_; intro K Q hK hQ; simp only [nod_tup, List.map_cons, nod2_ints, q1, n2, List.map_nil, e_x20, e_x21, List.getD_cons_zero, List.getD_cons_succ]; subst hK hQ) | refine Jr.go ?_) | refine sd ?_)
   have bl1 : ∀ K, aLen (blV 7 bW (gsOf gr).length) K = K (I ((gsOf gr).length : Nat)) := fun K => blV_len 7 bW _ K
   have hbn : (blV 7 bW (gsOf gr).length).nod = blV 7 bW (gsOf gr).length := blV_nod _ _ _
   refine loop_of (fun j : Nat => j ≤ xs.length) (fun j => [.arr (l.map acV) .no, .cptr (.agg [.ptr lb 0, .ptr sb 0, .ptr rb 0]), I ((L + ldC (xs.take j) : Nat) : Int), I i, ints xs f, .arr (ns.map nwV) g, I j]) (fun _ => G2) (fun j => xs.length - j) 0 (Nat.zero_le _) rfl rfl ?_
   intro j hj
   repeat (first | (with_reducible first | refine Ju.go ?_ | (refine Hd.go ?_; intro K Q hK hQ; simp only [List.getD_cons_succ, List.getD_cons_zero, nod_ints, q1, e_len, nod_imm, Try.underlying3, e_lss, e_cond, decide_eq_true_eq]; subst hK hQ) | refine Jr.go ?_) | refine sd ?_)
   by_cases hjl : j < xs.length
   ·have dj : (j : Int) < xs.length := by omega
    have e1 : ldC (xs.take (j + 1)) = ldC (xs.take j) + (if xs.getD j 0 = 0 then 0 else 1) := by
     rw [take_snocA xs 0 hjl, ldC_app]; rfl
    have e2 := ldC_le (xs.take j)
    rw [List.length_take] at e2
    have r1 : R64 (((L + ldC (xs.take j) : Nat) : Int) + 1) := by unfold R64; omega
    by_cases h0 : xs.getD j 0 = 0
    ·rw [if_pos h0] at e1
     repeat (first | (with_reducible first | refine Ju.go ?_ | (refine Hd.go ?_; intro K Q hK hQ; simp only [dj, if_true, List.getD_cons_succ, List.getD_cons_zero, nod_ints, q1, nod_imm, e_ix, Int.toNat_natCast, h0, true_and, nod_cptr, e_ldc, Try.underlying3, e_neq, decide_true, Bool.not_true, e_cond, Bool.false_eq_true, if_false, e_add]; subst hK hQ) | refine Jr.go ?_) | refine sd ?_)
     refine ⟨j + 1, by omega, ?_, rfl, by omega⟩
     show [_, _, I ((L + ldC (xs.take (j + 1)) : Nat) : Int), _, _, _, I ((j + 1 : Nat) : Int)] = _
     rw [e1]; rfl
    ·rw [if_neg h0] at e1
     repeat (first | (with_reducible first | refine Ju.go ?_ | (refine Hd.go ?_; intro K Q hK hQ; simp only [dj, if_true, List.getD_cons_succ, List.getD_cons_zero, nod_ints, q1, nod_imm, e_ix, Int.toNat_natCast, true_and, nod_cptr, e_ldc, Try.underlying3, e_neq, h0, decide_false, Bool.not_false, e_cond, e_add, r1]; subst hK hQ) | refine Jr.go ?_) | refine sd ?_)
     refine ⟨j + 1, by omega, ?_, rfl, by omega⟩
     show [_, _, I ((L + ldC (xs.take (j + 1)) : Nat) : Int), _, _, _, I ((j + 1 : Nat) : Int)] = _
     rw [e1]; rfl
   ·have dj : ¬ (j : Int) < xs.length := by omega
    have e1 : xs.take j = xs := List.take_of_length_le (by omega)
    rw [e1]
    repeat (first | (with_reducible first | refine Ju.go ?_ | (refine Hd.go ?_; intro K Q hK hQ; simp only [dj, if_false]; subst hK hQ) | refine Jr.go ?_) | refine sd ?_)
    refine loop_of (fun k : Nat => k ≤ ns.length) (fun k => [.arr (l.map acV) .no, .cptr (.agg [.ptr lb 0, .ptr sb 0, .ptr rb 0]), I ((L + ldC xs : Nat) : Int), I i, .arr (ns.map nwV) g, I k]) (fun _ => G2) (fun k => ns.length - k) 0 (Nat.zero_le _) rfl rfl ?_
    intro k hk
    repeat (first | (with_reducible first | refine Ju.go ?_ | (refine Hd.go ?_; intro K Q hK hQ; simp only [List.getD_cons_succ, List.getD_cons_zero, nod_arr, q2, e_lenA, List.length_map, nod_imm, Try.underlying3, e_lss, e_cond, decide_eq_true_eq]; subst hK hQ) | refine Jr.go ?_) | refine sd ?_)
    by_cases hkl : k < ns.length
    ·have dk : (k : Int) < ns.length := by omega
     have r1 : R64 ((k : Int) + 1) := by unfold R64; omega
     by_cases h1 : (ns.getD k default).k = 1
     ·have hne : ¬ (((gsOf gr).length : Nat) : Int) = 0 := fun e => c3 (List.length_eq_zero_iff.1 (by omega)) _ (getD_memA ns default hkl) h1
      repeat (first | (with_reducible first | refine Ju.go ?_ | (refine Hd.go ?_; intro K Q hK hQ; simp only [dk, if_true, List.getD_cons_succ, List.getD_cons_zero, nod_arr, q2, nod_imm, ix_nw, Int.toNat_natCast, true_and, nod_cptr, e_fac, Nat.zero_add, h1, lv_cons, List.length_nil, Nat.reduceAdd, Nat.reduceLeDiff, e_ldc, Try.underlying57, e_eql, decide_true, Try.underlying3, e_ldcP, nod_ptr, e_ncP, e_fa, Nat.add_zero, ld_at hS2.rs, ld_at hS2.rf.c, hbn, bl1, hne, decide_false, e_gT, cond_true, j_one, e_cond, Bool.false_eq_true, if_false, e_add, r1]; subst hK hQ) | refine Jr.go ?_) | refine sd ?_)
      exact ⟨k + 1, by omega, rfl, rfl, by omega⟩
     ·repeat (first | (with_reducible first | refine Ju.go ?_ | (refine Hd.go ?_; intro K Q hK hQ; simp only [dk, if_true, List.getD_cons_succ, List.getD_cons_zero, nod_arr, q2, nod_imm, ix_nw, Int.toNat_natCast, true_and, nod_cptr, e_fac, Nat.zero_add, lv_cons, List.length_nil, Nat.reduceAdd, Nat.reduceLeDiff, e_ldc, Try.underlying57, e_eql, h1, decide_false, Try.underlying3, e_ldcP, nod_ptr, e_ncP, e_fa, Nat.add_zero, e_gT, cond_false, j_one, e_cond, Bool.false_eq_true, if_false, e_add, r1]; subst hK hQ) | refine Jr.go ?_) | refine sd ?_)
      exact ⟨k + 1, by omega, rfl, rfl, by omega⟩
    ·have dk : ¬ (k : Int) < ns.length := by omega
     repeat (first | (with_reducible first | refine Ju.go ?_ | (refine Hd.go ?_; intro K Q hK hQ; simp only [dk, if_false, List.getD_cons_succ, List.getD_cons_zero, nod_imm, Try.underlying3, e_add]; subst hK hQ) | refine Jr.go ?_) | refine sd ?_)
     exact ⟨(i + 1, L + ldC xs, a2, m2, G2), ⟨by show i + 1 ≤ l.length; omega, by have := ldC_le xs; show L + ldC xs ≤ 100 * (i + 1); omega, hlb2, hS2, hM2, c1, c2.trans hg, by show m2.q.length ≤ i + 1; omega, by show 0 ≤ m2.nx; omega, by show m2.nx ≤ ((i + 1 : Nat) : Int); omega, by show m2.ck ≤ 100 * ((i + 1 : Nat) : Int); omega⟩, rfl, rfl, by show l.length - (i + 1) < l.length - i; omega⟩
  ·have d : ¬ (i : Int) < l.length := by omega
   repeat (first | (with_reducible first | refine Ju.go ?_ | (refine Hd.go ?_; intro K Q hK hQ; simp only [d, if_false]; subst hK hQ) | refine Jr.go ?_) | refine sd ?_)
   have bl1 : ∀ K, aLen (blV 7 bW (gsOf gr).length) K = K (I ((gsOf gr).length : Nat)) := fun K => blV_len 7 bW _ K
   have hbn : (blV 7 bW (gsOf gr).length).nod = blV 7 bW (gsOf gr).length := blV_nod _ _ _
   have hsl := fun j => sumG_rng (fun g hg => hM.gs g (List.mem_of_mem_take (i := j) hg))
   refine loop_of (fun j : Nat => j ≤ m.gs.length) (fun j => [.cptr (.agg [.ptr lb 0, .ptr sb 0, .ptr rb 0]), I (L : Nat), I (sumG (m.gs.take j)), I j]) (fun _ => G) (fun j => m.gs.length - j) 0 (Nat.zero_le _) rfl rfl ?_
   intro j hj
   repeat (first | (with_reducible first | refine Ju.go ?_ | (refine Hd.go ?_; intro K Q hK hQ; simp only [List.getD_cons_zero, nod_cptr, e_fac, Nat.reduceAdd, lv_cons, List.length_nil, Nat.zero_add, Nat.reduceLeDiff, List.getD_cons_succ, true_and, e_ldcP, nod_ptr, e_ncP, e_fa, Nat.add_zero, ld_at hS.rs, ld_at hS.rf.c, hbn, bl1, nod_imm, Try.underlying3, e_lss, e_cond, decide_eq_true_eq]; subst hK hQ) | refine Jr.go ?_) | refine sd ?_)
   by_cases hjl : j < m.gs.length
   ·have dj : (j : Int) < (gsOf gr).length := by omega
    have e1 : sumG (m.gs.take (j + 1)) = sumG (m.gs.take j) + (m.gs.getD j default).ud := by rw [take_snocA m.gs default hjl, sumG_snoc]
    have r1 : R64 (sumG (m.gs.take j) + (m.gs.getD j default).ud) := by
     have h1 := hsl (j + 1)
     rw [e1, List.length_take] at h1
     unfold R64; omega
    have e29 := c29 a.lb a.lg m.gs (j : Int) G hS.sp.ld hM.gl
    rw [if_pos (inB_iff.2 ⟨by omega, by omega⟩), Int.toNat_natCast, hlb] at e29
    repeat (first | (with_reducible first | refine Ju.go ?_ | (refine Hd.go ?_; intro K Q hK hQ; simp only [dj, if_true, List.getD_cons_zero, nod_cptr, e_fac, Nat.zero_add, lv_cons, List.length_nil, Nat.reduceAdd, Nat.reduceLeDiff, true_and, e_ldcP, nod_ptr, List.getD_cons_succ, nod_imm]; subst hK hQ) | refine Jr.go ?_) | refine sd ?_)
    refine call_of e29 ?_
    repeat (first | (with_reducible first | refine Ju.go ?_ | (refine Hd.go ?_; intro K Q hK hQ; simp only [nod_tup, List.map_cons, nod2_imm, List.map_nil, e_x20, e_x21, List.getD_cons_zero, List.getD_cons_succ, nod_imm, Try.underlying30, e_neq, decide_true, Bool.not_true, e_cond, Bool.false_eq_true, if_false, Try.underlying3, e_add, r1, true_and]; subst hK hQ) | refine Jr.go ?_) | refine sd ?_)
    refine ⟨j + 1, by omega, ?_, rfl, by omega⟩
    show [_, _, I (sumG (m.gs.take (j + 1))), I ((j + 1 : Nat) : Int)] = _
    rw [e1]; rfl
   ·have dj : ¬ (j : Int) < (gsOf gr).length := by omega
    have e1 : m.gs.take j = m.gs := List.take_of_length_le (by omega)
    have hle : (L : Int) ≤ sumG m.gs := by have := hC.s; omega
    rw [e1]
    repeat (first | (with_reducible first | refine Ju.go ?_ | (refine Hd.go ?_; intro K Q hK hQ; simp only [dj, if_false, List.getD_cons_succ, List.getD_cons_zero, nod_imm, Try.underlying3, e_leq, hle, decide_true, e_gT, cond_true]; subst hK hQ) | refine Jr.go ?_) | refine sd ?_)
    refine call_of (c15x _) ?_
    repeat (first | (with_reducible first | refine Ju.go ?_ | (refine Hd.go ?_; intro K Q hK hQ; simp only [nod_imm]; subst hK hQ) | refine Jr.go ?_) | refine sd ?_)
    exact end1T (fzI _) (take_low hS.lo hS.ln)
open Go.ChangeShapes Go.WideShapes Go.ChangeAt Go.RowKit
theorem own : ownKnob Try.prog.godebug = none := by kernel_rfl
theorem laidOut : laidOutB Try.prog = true := by kernel_rfl
set_option maxRecDepth 100000 in
theorem lifted (os : Os) (started : os.Started) (H : Type) (enc : TypeId × Value → H) :
    ReturnsInHanded {} Try.checked os 8 .any (Rows.streamConsentsSpec.pre6 enc Try.prog Try.f8 Rows.streamConsentsRow.domain false) (Rows.streamConsentsSpec.post enc Try.prog Try.f8 false true false false) := by
  refine returnsInHanded_of_change (C := Try.checked) own started (by kernel_rfl) Try.func8
    (ChangeSpec.witness6 (enc := enc) (C := Try.checked) false ⟨#[], #[.slice none 0 0, .slice none 0 0], []⟩ 8 (by kernel_rfl) (by kernel_rfl) (by kernel_rfl) (by kernel_rfl)) ?_
  intro W base args ds gs before hval0 hW hcnd _
  have hval : ∀ (j : Nat) t v, Try.f8.params[j]? = some t → args[j]? = some v → Value.okWide Try.prog W .any base t v := hval0
  have hW' := hW
  obtain ⟨p, q, hA0, hV, rfl, hfz, hnd⟩ := hW
  have hA : DataW.TrodAll enc Try.prog W 0 (fun _ => true) true Try.f8.params.toList args.toList ds p := hA0
  rw [Try.params8] at hA hval
  obtain ⟨v0, vs0, d0, ds0, p0, q0, hargs, rfl, rfl, h0, r0⟩ := trodAll_cons hA
  obtain ⟨v1, vs1, d1, ds1, p1, q1, rfl, rfl, rfl, h1, r1⟩ := trodAll_cons r0
  obtain ⟨rfl, rfl, rfl⟩ := trodAll_nil r1
  obtain rfl : args = #[v0, v1] := by cases args; simp_all
  obtain ⟨rfl, rfl⟩ := trodVars_none hV
  have lt0 : ∀ x ∈ p0, x.block < W.heap.size := by obtain ⟨m, hm⟩ := h0; exact DataW.trod_lt m _ _ _ hm
  obtain ⟨l0, w0, e0⟩ := in_grants (hval 0 _ v0 rfl rfl) h0
  have lt1 : ∀ x ∈ p1, x.block < W.heap.size := by obtain ⟨m, hm⟩ := h1; exact DataW.trod_lt m _ _ _ hm
  obtain ⟨l1, w1, e1⟩ := in_acts (hval 1 _ v1 rfl rfl) h1
  clear hA0 hval0
  refine (bridge (args := [.arr (l0.map gnV) .no, .arr (l1.map acV) .no]) (ra := #[v0, v1]) (c8 l0 l1 [] w0 w1) rfl (by intro a ha; simp at ha; rcases ha with rfl | rfl <;> rfl) (fun i => ?_)).mono fun e W' ⟨he, bel⟩ => ?_
  · match i with
    | 0 => exact e0
    | 1 => exact e1
    | i + 2 => exact .junk _
  · subst he
    exact ⟨_, rfl, _, _, _, [], _, [], hW', trodAll_mk1 (shut_bool Try.underlying4 _), (trodAll_cons_mk (Below.trod laidOut (by kernel_rfl) (of_decide_eq_true (by kernel_rfl)) h0 bel lt0) (trodAll_cons_mk (Below.trod laidOut (by kernel_rfl) (of_decide_eq_true (by kernel_rfl)) h1 bel lt1) trodAll_mk0)), rfl, bel.frame _, fun h => by cases h⟩
theorem over : Rows.streamConsentsRow.holds Try.pinned (OpenSpec.ofChange Rows.streamConsentsSpec) :=
 OpenClaim.holds_of_wide 8 Try.f8 rfl rfl rfl rfl rfl rfl rfl ⟨rfl, rfl, rfl, rfl, rfl⟩ rfl rfl rfl rfl rfl (by kernel_rfl) Try.func8 (by kernel_rfl)
  (of_decide_eq_true (by kernel_rfl)) (by unfold Func.isWrapper; first | (rw [if_pos (by decide +kernel)]; kernel_rfl) | (rw [if_neg (by decide +kernel)]; exact ⟨rfl, rfl⟩))
  (fun os started H enc _ => lifted os started H enc)
theorem streamConsents_holds : Rows.StreamConsentsSaid := over
#print axioms streamConsents_holds
end Go.Proofs.Ytlnjhnemmemloaa
