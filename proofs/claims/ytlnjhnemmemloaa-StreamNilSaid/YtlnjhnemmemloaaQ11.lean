/- A nil speaker and ledger, and the zero ones, do nothing: true for every input. -/
import Derived.Test.YtlnjhnemmemloaaP6
import Derived.Test.YtlnjhnemmemloaaProg
import Derived.Test.YtlnjhnemmemloaaRows

set_option linter.unusedVariables false
set_option linter.unusedSimpArgs false
set_option linter.unnecessarySimpa false
set_option maxRecDepth 20000
set_option maxHeartbeats 2000000
namespace Go.Proofs.Ytlnjhnemmemloaa
open Go Go.Ab Go.Proofs
attribute [local congr] g_bin g_nilS g_nilP g_un g_ext g_bx g_fa g_ld g_st g_ix g_ixA g_slc g_mk g_bs g_bd g_nc g_cv g_len g_lenT g_app g_appB g_cpy g_mm g_call g_callG g_calm g_calmG g_range g_res g_pick g_cond g_loop g_Jv g_eqS g_eqP g_fd g_ixT g_ta g_lkp g_upd g_mkM g_appS g_inv g_callE g_callEG g_invE g_zr g_wr
open Go.ChangeShapes Go.WideShapes Go.ChangeAt Go.RowKit
theorem in_one {H α : Type} {enc : TypeId × Value → H} {W : World} {base : Nat} {t e : TypeId} {v : Value} {d : DataW H} {p : List MemPlace} {f : α → V} (ht : Try.prog.underlying t = some (.slice e)) (ho : Opens enc W t f) (hcl : ∀ x, (f x).cl = [f x]) (hv : Value.okWide Try.prog W .any base t v)
    (hA : DataW.Trod enc Try.prog W 0 (fun _ => true) true t v d p) : ∃ x : α, Rel (sg0 W) W (f x) v := by
  obtain ⟨a, len, cap, rfl⟩ := okWide_slice ht hv
  obtain ⟨fuel, hf⟩ := hA
  obtain ⟨l, hl⟩ := ho _ _ _ hf
  rw [hcl] at hl
  exact ⟨l, (cr1' hl).1⟩
def gnL (g : Gn) : List V := [I g.vo, I g.us, I g.fr, I g.un, I g.bu]
theorem opens41 {H : Type} {enc : TypeId × Value → H} {W : World} : Opens enc W 41 fun g : Gn => .agg (gnL g) := fun n cs y h => by
 obtain ⟨hl, hf⟩ := fields Try.underlying41 h
 rw [show Try.prog.cellsOf 41 = 5 by kernel_rfl] at hl
 match cs, hl with
 | [c0, c1, c2, c3, c4], _ =>
  obtain ⟨a, ha⟩ := one (opens3 (enc := enc)) (fun _ => rfl) (fld1 (hf 0 _ rfl) k3 rfl)
  obtain ⟨b, hb⟩ := one (opens3 (enc := enc)) (fun _ => rfl) (fld1 (hf 1 _ rfl) k3 rfl)
  obtain ⟨c, hc⟩ := one (opens3 (enc := enc)) (fun _ => rfl) (fld1 (hf 2 _ rfl) k3 rfl)
  obtain ⟨d, hd⟩ := one (opens3 (enc := enc)) (fun _ => rfl) (fld1 (hf 3 _ rfl) k3 rfl)
  obtain ⟨e, he⟩ := one (opens3 (enc := enc)) (fun _ => rfl) (fld1 (hf 4 _ rfl) k3 rfl)
  exact ⟨⟨a, b, c, d, e⟩, cr_cons ha (cr_cons hb (cr_cons hc (cr_cons hd (cr_cons he cr_nil))))⟩
theorem in_gn {H : Type} {enc : TypeId × Value → H} {W : World} {base : Nat} {v : Value} {d : DataW H} {p : List MemPlace} (hv : Value.okWide Try.prog W .any base 41 v) (hA : DataW.Trod enc Try.prog W 0 (fun _ => true) true 41 v d p) : ∃ g : Gn, Rel (sg0 W) W (gnV g) v := in_agg (g := gnL) Try.underlying41 opens41 (fun _ => rfl) hv hA
theorem in_is {H : Type} {enc : TypeId × Value → H} {W : World} {base : Nat} {v : Value} {d : DataW H} {p : List MemPlace} (hv : Value.okWide Try.prog W .any base 22 v) (hA : DataW.Trod enc Try.prog W 0 (fun _ => true) true 22 v d p) : ∃ l : List Int, l.length ≤ 9223372036854775807 ∧ Rel (sg0 W) W (ints l .no) v := by
 obtain ⟨x, hx⟩ := in_one Try.underlying22 (opens22 (enc := enc)) (fun _ => rfl) hv hA
 exact ⟨x.1, x.2, hx⟩
end Go.Proofs.Ytlnjhnemmemloaa
set_option maxHeartbeats 4000000
namespace Go.Proofs.Ytlnjhnemmemloaa
open Go Go.Ab Go.Proofs
def an11 : An := { imm := [4, 5, 6], jn := [(6, [3, 4, 5, 6, 9, 10, 11]), (10, [3, 4, 5, 6, 9, 10, 11, 13, 14, 15]), (12, [3, 4, 5, 6, 9, 10, 11, 13, 14, 15, 17, 18, 19]), (14, [3, 4, 5, 6, 10, 11, 101]), (17, [3, 4, 5, 6, 10, 11, 13, 15]), (19, [3, 4, 5, 6, 11, 174])], lp := [(6, [3, 4, 5, 6, 9, 10, 11])], loud := [], ord := [] }
def vc11 (C : Cb) (a0 a1 a2 a3 : V) (H : Hp) (R : List V → Hp → Prop) : Prop :=
 C.aBx true 6 a0.nod H fun v1 H2 =>
 C.aBx true 2 a1.nod H2 fun v3 H4 =>
 C.aBx true 5 a2.nod H4 fun v5 H6 =>
 C.aLd 6 true false v1.nod H6 fun v7 H8 =>
 C.callE 14 [v7.nod] H8 fun v9 H10 =>
 C.aUn .not v9.nod fun v11 =>
 aCond v11.nod (
 C.callE 15 [] H10 fun v12 H13 =>
 R [v12] H13) (
 Jn (fun l14 H15 =>
 LoopA (fun l17 H18 K19 =>
 C.aBin (Try.prog.underlying 3) .lss (l17.getD 6 .junk).nod.nod (I 2) fun v20 =>
 aCond v20.nod (
 C.aLd 5 true false (l17.getD 3 .junk).nod H18 fun v21 H22 =>
 C.callE 27 [(l17.getD 4 .junk).nod.nod, v21.nod] H22 fun v23 H24 =>
 C.aExt 0 v23.nod.nod fun v25 =>
 C.aExt 1 v23.nod.nod fun v26 =>
 Jn (fun l27 H28 =>
 C.callE 30 [(l27.getD 4 .junk).nod.nod, (l27.getD 0 .junk).nod.nod, (l27.getD 0 .junk).nod.nod, (l27.getD 0 .junk).nod.nod, (l27.getD 0 .junk).nod.nod] H28 fun v30 H31 =>
 C.aExt 0 v30.nod.nod fun v32 =>
 C.aExt 1 v30.nod.nod fun v33 =>
 Jn (fun l34 H35 =>
 C.callE 39 [(l34.getD 4 .junk).nod.nod] H35 fun v37 H38 =>
 C.aExt 0 v37.nod.nod fun v39 =>
 C.aExt 1 v37.nod.nod fun v40 =>
 Jn (fun l41 H42 =>
 aCond (l41.getD 6 .junk).nod (
 R [(B false)] H42) (
 C.aLd 6 true false (l41.getD 1 .junk).nod H42 fun v44 H45 =>
 C.callE 22 [(l41.getD 4 .junk).nod.nod, v44.nod] H45 fun v46 H47 =>
 C.aExt 0 v46.nod.nod fun v48 =>
 C.aExt 1 v46.nod.nod fun v49 =>
 Jn (fun l50 H51 =>
 C.callE 23 [(l50.getD 4 .junk).nod.nod, (l50.getD 0 .junk).nod.nod] H51 fun v53 H54 =>
 C.aExt 0 v53.nod.nod fun v55 =>
 C.aExt 1 v53.nod.nod fun v56 =>
 C.aExt 2 v53.nod.nod fun v57 =>
 Jn (fun l58 H59 =>
 aCond (l58.getD 5 .junk).nod (
 R [(B false)] H59) (
 C.aBd [(B false), (V.arr [] .full)] [] fun v61 =>
 C.aBx false 2 v61.nod H59 fun v62 H63 =>
 C.aBd [(V.imm .nilIface), (V.imm (.pointer none)), (I 0), (I 0), (I 0), (I 0), (I 0), (V.imm (.pointer none)), (I 0), (B false)] [] fun v64 =>
 C.aBx false 10 v64.nod H63 fun v65 H66 =>
 C.aBin (Try.prog.underlying 3) .add (l58.getD 4 .junk).nod.nod (I 1) fun v67 =>
 K19 [(l58.getD 0 .junk), (l58.getD 1 .junk), (l58.getD 2 .junk), (l58.getD 3 .junk), v62, v65, v67] H66))
 (fun R60 =>
 C.aBin (Try.prog.underlying 30) .neq (l50.getD 6 .junk).nod.nod (I 1) fun v68 =>
 Jv (fun v69 H70 =>
 Jv (fun v73 H74 =>
 Jv (fun v77 H78 =>
 Jv (fun v84 H85 =>
 Jv (fun v90 H91 =>
 Jv (fun v96 H97 =>
 Jv (fun v104 H105 =>
 Jv (fun v110 H111 =>
 Jv (fun v117 H118 =>
 R60 [(l50.getD 0 .junk), (l50.getD 1 .junk), (l50.getD 2 .junk), (l50.getD 3 .junk), (l50.getD 5 .junk), v117] H118)
 (fun R119 =>
 aG v110.nod false (
 C.callE 36 [(l50.getD 4 .junk).nod.nod] H111 fun v120 H121 =>
 C.aBin (Try.prog.underlying 3) .neq v120.nod (I 0) fun v122 =>
 R119 v122.nod H121) (
 R119 (B true) H111)))
 (fun R112 =>
 aG v104.nod false (
 C.callE 37 [(l50.getD 4 .junk).nod.nod] H105 fun v113 H114 =>
 C.aLen v113.nod fun v115 =>
 C.aBin (Try.prog.underlying 3) .neq v115.nod (I 0) fun v116 =>
 R112 v116.nod H114) (
 R112 (B true) H105)))
 (fun R106 =>
 aG v96.nod false (
 C.callE 25 [(l50.getD 4 .junk).nod.nod, (l50.getD 0 .junk).nod.nod] H97 fun v107 H108 =>
 C.aBin (Try.prog.underlying 30) .neq v107.nod (I 1) fun v109 =>
 R106 v109.nod H108) (
 R106 (B true) H97)))
 (fun R98 =>
 aG v90.nod false (
 C.aLd 2 true false (l50.getD 2 .junk).nod H91 fun v99 H100 =>
 C.callE 42 [(l50.getD 4 .junk).nod.nod, v99.nod] H100 fun v101 H102 =>
 C.aBin (Try.prog.underlying 30) .neq v101.nod (I 1) fun v103 =>
 R98 v103.nod H102) (
 R98 (B true) H91)))
 (fun R92 =>
 aG v84.nod false (
 C.callE 31 [(l50.getD 4 .junk).nod.nod, (l50.getD 0 .junk).nod.nod] H85 fun v93 H94 =>
 C.aBin (Try.prog.underlying 30) .neq v93.nod (I 1) fun v95 =>
 R92 v95.nod H94) (
 R92 (B true) H85)))
 (fun R86 =>
 aG v77.nod false (
 C.callE 41 [(l50.getD 4 .junk).nod.nod, (l50.getD 0 .junk).nod.nod] H78 fun v87 H88 =>
 C.aBin (Try.prog.underlying 30) .neq v87.nod (I 1) fun v89 =>
 R86 v89.nod H88) (
 R86 (B true) H78)))
 (fun R79 =>
 aG v73.nod false (
 C.aLen v55.nod.nod fun v80 =>
 C.aLen v56.nod.nod fun v81 =>
 C.aBin (Try.prog.underlying 3) .add v80.nod v81.nod fun v82 =>
 C.aBin (Try.prog.underlying 3) .gtr v82.nod (I 0) fun v83 =>
 R79 v83.nod H74) (
 R79 (B true) H74)))
 (fun R75 =>
 aG v69.nod false (
 C.aBin (Try.prog.underlying 30) .neq v57.nod.nod (I 1) fun v76 =>
 R75 v76.nod H70) (
 R75 (B true) H70)))
 (fun R71 =>
 aG v68.nod false (
 C.aBin (Try.prog.underlying 30) .neq (l50.getD 7 .junk).nod.nod (I 1) fun v72 =>
 R71 v72.nod H54) (
 R71 (B true) H54))))
 (fun R52 =>
 C.aLd 6 true false (l41.getD 1 .junk).nod H47 fun v123 H124 =>
 C.callE 40 [(l41.getD 4 .junk).nod.nod, (l41.getD 0 .junk).nod.nod, v123.nod] H124 fun v125 H126 =>
 C.aExt 0 v125.nod.nod fun v127 =>
 C.aExt 1 v125.nod.nod fun v128 =>
 R52 [(l41.getD 0 .junk), (l41.getD 1 .junk), (l41.getD 2 .junk), (l41.getD 3 .junk), (l41.getD 4 .junk), (l41.getD 5 .junk), v49, v128] H126)))
 (fun R43 =>
 C.aBin (Try.prog.underlying 30) .neq (l34.getD 7 .junk).nod.nod (I 1) fun v129 =>
 Jv (fun v130 H131 =>
 Jv (fun v134 H135 =>
 Jv (fun v138 H139 =>
 Jv (fun v142 H143 =>
 Jv (fun v146 H147 =>
 Jv (fun v149 H150 =>
 Jv (fun v153 H154 =>
 Jv (fun v157 H158 =>
 R43 [(l34.getD 0 .junk), (l34.getD 1 .junk), (l34.getD 2 .junk), (l34.getD 3 .junk), (l34.getD 5 .junk), (l34.getD 6 .junk), v157] H158)
 (fun R159 =>
 aG v153.nod false (
 C.callE 28 [(l34.getD 4 .junk).nod.nod, (l34.getD 0 .junk).nod.nod] H154 fun v160 H161 =>
 C.aBin (Try.prog.underlying 30) .neq v160.nod (I 1) fun v162 =>
 R159 v162.nod H161) (
 R159 (B true) H154)))
 (fun R155 =>
 aG v149.nod false (
 C.aNilP (Try.prog.underlying 44) .neq v39.nod.nod fun v156 =>
 R155 v156.nod H150) (
 R155 (B true) H150)))
 (fun R151 =>
 aG v146.nod false (
 C.aBin (Try.prog.underlying 3) .neq (l34.getD 11 .junk).nod.nod (I 0) fun v152 =>
 R151 v152.nod H147) (
 R151 (B true) H147)))
 (fun R148 =>
 aG v142.nod false (
 R148 (l34.getD 8 .junk).nod.nod H143) (
 R148 (B true) H143)))
 (fun R144 =>
 aG v138.nod false (
 C.aBin (Try.prog.underlying 30) .neq v40.nod.nod (I 1) fun v145 =>
 R144 v145.nod H139) (
 R144 (B true) H139)))
 (fun R140 =>
 aG v134.nod false (
 C.aBin (Try.prog.underlying 30) .neq (l34.getD 12 .junk).nod.nod (I 1) fun v141 =>
 R140 v141.nod H135) (
 R140 (B true) H135)))
 (fun R136 =>
 aG v130.nod false (
 C.aBin (Try.prog.underlying 30) .neq (l34.getD 10 .junk).nod.nod (I 1) fun v137 =>
 R136 v137.nod H131) (
 R136 (B true) H131)))
 (fun R132 =>
 aG v129.nod false (
 C.aBin (Try.prog.underlying 30) .neq (l34.getD 9 .junk).nod.nod (I 1) fun v133 =>
 R132 v133.nod H38) (
 R132 (B true) H38))))
 (fun R36 =>
 C.callE 29 [(l27.getD 4 .junk).nod.nod, (l27.getD 0 .junk).nod.nod] H31 fun v163 H164 =>
 C.aExt 0 v163.nod.nod fun v165 =>
 C.aExt 1 v163.nod.nod fun v166 =>
 R36 [(l27.getD 0 .junk), (l27.getD 1 .junk), (l27.getD 2 .junk), (l27.getD 3 .junk), (l27.getD 4 .junk), (l27.getD 5 .junk), (l27.getD 6 .junk), (l27.getD 7 .junk), (l27.getD 8 .junk), (l27.getD 9 .junk), v33, v165, v166] H164))
 (fun R29 =>
 C.callE 38 [(l17.getD 4 .junk).nod.nod, (l17.getD 0 .junk).nod.nod, (l17.getD 0 .junk).nod.nod, (l17.getD 0 .junk).nod.nod, (l17.getD 0 .junk).nod.nod] H24 fun v167 H168 =>
 C.aExt 0 v167.nod.nod fun v169 =>
 C.aExt 1 v167.nod.nod fun v170 =>
 R29 [(l17.getD 0 .junk), (l17.getD 1 .junk), (l17.getD 2 .junk), (l17.getD 3 .junk), (l17.getD 4 .junk), (l17.getD 5 .junk), (l17.getD 6 .junk), v26, v169, v170] H168)) (
 C.callE 15 [] H18 fun v171 H172 =>
 R [v171] H172))
 [(l14.getD 0 .junk), (l14.getD 1 .junk), (l14.getD 2 .junk), (l14.getD 3 .junk), (l14.getD 4 .junk), (l14.getD 5 .junk), (l14.getD 6 .junk)] H15)
 (fun R16 =>
 R16 [a3, v1, v3, v5, (V.imm (.pointer none)), (V.imm (.pointer none)), (I 0)] H10))
theorem wf11 : (Nat.ble 4 Try.f11.ntmps && wfC an11 Try.f11.ntmps (Try.f11.body.getD .skip)) = true := by kernel_rfl
theorem tie11 (C : Cb) (a0 a1 a2 a3 : V) (H : Hp) (R : List V → Hp → Prop) : wpG Try.prog C an11 (Try.f11.body.getD .skip) (argF [a0, a1, a2, a3]) H (retG Try.prog C Try.f11 R) (fun _ _ _ => False) (retG Try.prog C Try.f11 R) = vc11 C a0 a1 a2 a3 H R := by kernel_rfl
theorem mk11 (a0 a1 a2 a3 : V) {H : Hp} {v : V} {H1 : Hp} (hd : v.Nd) (hn : H.length ≤ H1.length) (hb : H1 = H ∨ ∀ (b : Nat) (blk : Blk), H1[b]? = some blk → H[b]? = some blk ∨ BelB H1.length blk) (h : vc11 (real Try.prog) a0 a1 a2 a3 H (retF v H1)) : Ret Try.prog 11 [a0, a1, a2, a3] H v H1 :=
 ret_mk (an := an11) hm Try.call11 Try.func11 rfl wf11 hd hn hb (Eq.mpr (tie11 (real Try.prog) a0 a1 a2 a3 H (retF v H1)) h)
theorem mkE11 (a0 a1 a2 a3 : V) {H : Hp} {Q : V → Hp → Prop} (h : vc11 (real Try.prog) a0 a1 a2 a3 H (retW Q)) : RetE Try.prog 11 [a0, a1, a2, a3] H Q :=
 retE_mk (an := an11) hm Try.call11 Try.func11 rfl wf11 (Eq.mpr (tie11 (real Try.prog) a0 a1 a2 a3 H (retW Q)) h)
theorem mko11 (a0 a1 a2 a3 : V) {H : Hp} {xs : List V} {H1 : Hp} (hn : H.length ≤ H1.length) (hb : H1 = H ∨ ∀ (b : Nat) (blk : Blk), H1[b]? = some blk → H[b]? = some blk ∨ BelB H1.length blk) (h : vc11 (real Try.prog) a0 a1 a2 a3 H (retO xs H1)) : Ret Try.prog 11 [a0, a1, a2, a3] H (.arr xs .own) H1 :=
 ret_mko (an := an11) (t := 8) hm Try.call11 Try.func11 rfl wf11 rfl hn hb (Eq.mpr (tie11 (real Try.prog) a0 a1 a2 a3 H (retO xs H1)) h)
end Go.Proofs.Ytlnjhnemmemloaa
set_option maxHeartbeats 2000000
namespace Go.Proofs.Ytlnjhnemmemloaa
open Go Go.Ab Go.Proofs
attribute [local congr] g_bin g_nilS g_nilP g_un g_ext g_bx g_fa g_ld g_st g_ix g_ixA g_slc g_mk g_bs g_bd g_nc g_cv g_len g_lenT g_app g_appB g_cpy g_mm g_call g_callG g_calm g_calmG g_range g_res g_pick g_cond g_loop g_Jv g_eqS g_eqP g_fd g_ixT g_ta g_lkp g_upd g_mkM g_appS g_inv g_callE g_callEG g_invE g_zr g_wr
theorem c68n (H : Hp) : Ret Try.prog 68 [nilP] H (B false) H := by
 refine mk68 _ rfl (Nat.le_refl _) (.inl rfl) ?_
 simp only [vc68, real]
 repeat (first | (with_reducible first | refine Ju.go ?_ | (refine Hd.go ?_; intro K Q hK hQ; simp only [nod_imm, Try.underlying43, e_npnN, e_gT, cond_false, j_one]; subst hK hQ) | refine Jr.go ?_) | refine sd ?_)
 exact end1 (fzI _)
theorem c68z {b : Nat} {H : Hp} (h : H[b]? = some (.cells [B false, .arr [] .full])) : Ret Try.prog 68 [.ptr b 0] H (B false) H := by
 refine mk68 _ rfl (Nat.le_refl _) (.inl rfl) ?_
 simp only [vc68, real]
 repeat (first | (with_reducible first | refine Ju.go ?_ | (refine Hd.go ?_; intro K Q hK hQ; simp only [nod_ptr, Try.underlying43, e_npnP, nod_imm, e_ncP, e_fa, Nat.add_zero, ld_at h, Nat.zero_add, lv_cons, List.length_nil, Nat.reduceAdd, Nat.reduceLeDiff, List.getD_cons_zero, true_and, e_gT, cond_true, j_one]; subst hK hQ) | refine Jr.go ?_) | refine sd ?_)
 exact end1 (fzI _)
theorem c59n (H : Hp) : Ret Try.prog 59 [nilP] H (B false) H := by
 refine mk59 _ rfl (Nat.le_refl _) (.inl rfl) ?_
 simp only [vc59, real]
 repeat (first | (with_reducible first | refine Ju.go ?_ | (refine Hd.go ?_; intro K Q hK hQ; simp only [nod_imm, Try.underlying44, e_npnN, Try.underlying100, e_gT, cond_false, j_one]; subst hK hQ) | refine Jr.go ?_) | refine sd ?_)
 exact end1 (fzI _)
abbrev zSpk : List V := [.imm .nilIface, nilP, I 0, I 0, I 0, I 0, I 0, nilP, I 0, B false]
theorem c59z {b : Nat} {H : Hp} (h : H[b]? = some (.cells zSpk)) : Ret Try.prog 59 [.ptr b 0] H (B false) H := by
 refine mk59 _ rfl (Nat.le_refl _) (.inl rfl) ?_
 simp only [vc59, real]
 repeat (first | (with_reducible first | refine Ju.go ?_ | (refine Hd.go ?_; intro K Q hK hQ; simp only [nod_ptr, Try.underlying44, e_npnP, nod_imm, Try.underlying100, e_ncP, e_fa, Nat.zero_add, ld_at h, Nat.reduceAdd, lv_cons, List.length_nil, Nat.reduceLeDiff, List.getD_cons_succ, List.getD_cons_zero, e_npnN, true_and, e_gT, cond_true, j_one]; subst hK hQ) | refine Jr.go ?_) | refine sd ?_)
 exact end1 (fzI _)
theorem c27n {v : V} {H : Hp} (g : Gn) (hn : v.nod = v) (hr : Ret Try.prog 68 [v] H (B false) H) : Ret Try.prog 27 [v, gnV g] H (.tup [I 0, I 1]) H := by
 refine mk27 _ _ rfl (Nat.le_refl _) (.inl rfl) ?_
 simp only [vc27, real]
 repeat (first | (with_reducible first | refine Ju.go ?_ | (refine Hd.go ?_; intro K Q hK hQ; simp only [nod_agg, List.map_cons, nodL_imm, List.map_nil, e_bxI, okE_agg, lv_cons, List.length_nil, Nat.zero_add, Nat.reduceAdd, all_c, ck_I, all_n, Bool.and_self, and_true, true_and, hn]; subst hK hQ) | refine Jr.go ?_) | refine sd ?_)
 refine call_of hr ?_
 repeat (first | (with_reducible first | refine Ju.go ?_ | (refine Hd.go ?_; intro K Q hK hQ; simp only [nod_imm, e_not, Bool.not_false, e_cond, if_true]; subst hK hQ) | refine Jr.go ?_) | refine sd ?_)
 exact end2 rfl rfl (fzI _) (fzI _)
theorem c38n {v : V} {H : Hp} (a b c d : Int) (hn : v.nod = v) (hr : Ret Try.prog 68 [v] H (B false) H) : Ret Try.prog 38 [v, I a, I b, I c, I d] H (.tup [B false, I 1]) H := by
 refine mk38 _ _ _ _ _ rfl (Nat.le_refl _) (.inl rfl) ?_
 simp only [vc38, real]
 repeat (first | (with_reducible first | refine Ju.go ?_ | (refine Hd.go ?_; intro K Q hK hQ; simp only [hn]; subst hK hQ) | refine Jr.go ?_) | refine sd ?_)
 refine call_of hr ?_
 repeat (first | (with_reducible first | refine Ju.go ?_ | (refine Hd.go ?_; intro K Q hK hQ; simp only [nod_imm, e_not, Bool.not_false, e_cond, if_true]; subst hK hQ) | refine Jr.go ?_) | refine sd ?_)
 exact end2 rfl rfl (fzI _) (fzI _)
theorem c30n {v : V} {H : Hp} (a b c d : Int) (hn : v.nod = v) (hr : Ret Try.prog 68 [v] H (B false) H) : Ret Try.prog 30 [v, I a, I b, I c, I d] H (.tup [I 0, I 1]) H := by
 refine mk30 _ _ _ _ _ rfl (Nat.le_refl _) (.inl rfl) ?_
 simp only [vc30, real]
 repeat (first | (with_reducible first | refine Ju.go ?_ | (refine Hd.go ?_; intro K Q hK hQ; simp only [hn]; subst hK hQ) | refine Jr.go ?_) | refine sd ?_)
 refine call_of hr ?_
 repeat (first | (with_reducible first | refine Ju.go ?_ | (refine Hd.go ?_; intro K Q hK hQ; simp only [nod_imm, e_not, Bool.not_false, e_cond, if_true]; subst hK hQ) | refine Jr.go ?_) | refine sd ?_)
 exact end2 rfl rfl (fzI _) (fzI _)
theorem c29n {v : V} {H : Hp} (a : Int) (hn : v.nod = v) (hr : Ret Try.prog 68 [v] H (B false) H) : Ret Try.prog 29 [v, I a] H (.tup [I 0, I 1]) H := by
 refine mk29 _ _ rfl (Nat.le_refl _) (.inl rfl) ?_
 simp only [vc29, real]
 repeat (first | (with_reducible first | refine Ju.go ?_ | (refine Hd.go ?_; intro K Q hK hQ; simp only [hn]; subst hK hQ) | refine Jr.go ?_) | refine sd ?_)
 refine call_of hr ?_
 repeat (first | (with_reducible first | refine Ju.go ?_ | (refine Hd.go ?_; intro K Q hK hQ; simp only [nod_imm, e_not, Bool.not_false, e_cond, if_true]; subst hK hQ) | refine Jr.go ?_) | refine sd ?_)
 exact end2 rfl rfl (fzI _) (fzI _)
theorem c39n {v : V} {H : Hp} (hn : v.nod = v) (hr : Ret Try.prog 68 [v] H (B false) H) : Ret Try.prog 39 [v] H (.tup [nilP, I 1]) H := by
 refine mk39 _ rfl (Nat.le_refl _) (.inl rfl) ?_
 simp only [vc39, real]
 repeat (first | (with_reducible first | refine Ju.go ?_ | (refine Hd.go ?_; intro K Q hK hQ; simp only [hn]; subst hK hQ) | refine Jr.go ?_) | refine sd ?_)
 refine call_of hr ?_
 repeat (first | (with_reducible first | refine Ju.go ?_ | (refine Hd.go ?_; intro K Q hK hQ; simp only [nod_imm, e_not, Bool.not_false, e_cond, if_true]; subst hK hQ) | refine Jr.go ?_) | refine sd ?_)
 exact end2 rfl rfl (fzI _) (fzI _)
theorem c28n {v : V} {H : Hp} (a : Int) (hn : v.nod = v) (hr : Ret Try.prog 68 [v] H (B false) H) : Ret Try.prog 28 [v, I a] H (I 1) H := by
 refine mk28 _ _ rfl (Nat.le_refl _) (.inl rfl) ?_
 simp only [vc28, real]
 repeat (first | (with_reducible first | refine Ju.go ?_ | (refine Hd.go ?_; intro K Q hK hQ; simp only [hn]; subst hK hQ) | refine Jr.go ?_) | refine sd ?_)
 refine call_of hr ?_
 repeat (first | (with_reducible first | refine Ju.go ?_ | (refine Hd.go ?_; intro K Q hK hQ; simp only [nod_imm, e_not, Bool.not_false, e_cond, if_true]; subst hK hQ) | refine Jr.go ?_) | refine sd ?_)
 exact end1 (fzI _)
theorem c22n {v : V} {H : Hp} (p : Spc) (hn : v.nod = v) (hr : Ret Try.prog 59 [v] H (B false) H) : Ret Try.prog 22 [v, spV p] H (.tup [I 0, I 1]) H := by
 refine mk22 _ _ rfl (Nat.le_refl _) (.inl rfl) ?_
 simp only [vc22, real]
 repeat (first | (with_reducible first | refine Ju.go ?_ | (refine Hd.go ?_; intro K Q hK hQ; simp only [nod_agg, List.map_cons, nodL_imm, nodL_ints, nd_no, nodL_arr, List.map_nil, e_bxI, okE_agg, lv_cons, List.length_nil, Nat.zero_add, Nat.reduceAdd, all_c, ck_I, ck_ints, ck_arr, all_n, Bool.and_self, and_true, true_and, hn]; subst hK hQ) | refine Jr.go ?_) | refine sd ?_)
 refine call_of hr ?_
 repeat (first | (with_reducible first | refine Ju.go ?_ | (refine Hd.go ?_; intro K Q hK hQ; simp only [nod_imm, e_not, Bool.not_false, e_cond, if_true]; subst hK hQ) | refine Jr.go ?_) | refine sd ?_)
 exact end2 rfl rfl (fzI _) (fzI _)
theorem c40n {v : V} {H : Hp} (n : Int) (p : Spc) (hn : v.nod = v) (hr : Ret Try.prog 59 [v] H (B false) H) : Ret Try.prog 40 [v, I n, spV p] H (.tup [I 0, I 1]) H := by
 refine mk40 _ _ _ rfl (Nat.le_refl _) (.inl rfl) ?_
 simp only [vc40, real]
 repeat (first | (with_reducible first | refine Ju.go ?_ | (refine Hd.go ?_; intro K Q hK hQ; simp only [nod_agg, List.map_cons, nodL_imm, nodL_ints, nd_no, nodL_arr, List.map_nil, e_bxI, okE_agg, lv_cons, List.length_nil, Nat.zero_add, Nat.reduceAdd, all_c, ck_I, ck_ints, ck_arr, all_n, Bool.and_self, and_true, true_and, hn]; subst hK hQ) | refine Jr.go ?_) | refine sd ?_)
 refine call_of hr ?_
 repeat (first | (with_reducible first | refine Ju.go ?_ | (refine Hd.go ?_; intro K Q hK hQ; simp only [nod_imm, e_not, Bool.not_false, e_cond, if_true]; subst hK hQ) | refine Jr.go ?_) | refine sd ?_)
 exact end2 rfl rfl (fzI _) (fzI _)
theorem fz_nilF (n : Nat) (H : Hp) : Fz n H (.arr [] .full) (.arr [] .full) := .keep _ (.arr _ _ fun c hc => by cases hc)
theorem c23n {v : V} {H : Hp} (n : Int) (hn : v.nod = v) (hr : Ret Try.prog 59 [v] H (B false) H) : Ret Try.prog 23 [v, I n] H (.tup [.arr [] .full, .arr [] .full, I 1]) H := by
 refine mk23 _ _ rfl (Nat.le_refl _) (.inl rfl) ?_
 simp only [vc23, real]
 repeat (first | (with_reducible first | refine Ju.go ?_ | (refine Hd.go ?_; intro K Q hK hQ; simp only [hn]; subst hK hQ) | refine Jr.go ?_) | refine sd ?_)
 refine call_of hr ?_
 repeat (first | (with_reducible first | refine Ju.go ?_ | (refine Hd.go ?_; intro K Q hK hQ; simp only [nod_imm, e_not, Bool.not_false, e_cond, if_true]; subst hK hQ) | refine Jr.go ?_) | refine sd ?_)
 exact end3 rfl rfl rfl (fz_nilF _ _) (fz_nilF _ _) (fzI _)
theorem c41n {v : V} {H : Hp} (n : Int) (hn : v.nod = v) (hr : Ret Try.prog 59 [v] H (B false) H) : Ret Try.prog 41 [v, I n] H (I 1) H := by
 refine mk41 _ _ rfl (Nat.le_refl _) (.inl rfl) ?_
 simp only [vc41, real]
 repeat (first | (with_reducible first | refine Ju.go ?_ | (refine Hd.go ?_; intro K Q hK hQ; simp only [hn]; subst hK hQ) | refine Jr.go ?_) | refine sd ?_)
 refine call_of hr ?_
 repeat (first | (with_reducible first | refine Ju.go ?_ | (refine Hd.go ?_; intro K Q hK hQ; simp only [nod_imm, e_not, Bool.not_false, e_cond, if_true]; subst hK hQ) | refine Jr.go ?_) | refine sd ?_)
 exact end1 (fzI _)
theorem c31n {v : V} {H : Hp} (n : Int) (hn : v.nod = v) (hr : Ret Try.prog 59 [v] (H ++ [.cells [I n]]) (B false) (H ++ [.cells [I n]])) : Ret Try.prog 31 [v, I n] H (I 1) H := by
 refine mk31 _ _ rfl (Nat.le_refl _) (.inl rfl) ?_
 simp only [vc31, real]
 repeat (first | (with_reducible first | refine Ju.go ?_ | (refine Hd.go ?_; intro K Q hK hQ; simp only [nod_imm, e_bx, okE_I, cl_imm, true_and, hn]; subst hK hQ) | refine Jr.go ?_) | refine sd ?_)
 refine call_of hr ?_
 repeat (first | (with_reducible first | refine Ju.go ?_ | (refine Hd.go ?_; intro K Q hK hQ; simp only [nod_imm, e_not, Bool.not_false, e_cond, if_true]; subst hK hQ) | refine Jr.go ?_) | refine sd ?_)
 exact end1A (fzI _)
theorem c42n {v : V} {H : Hp} (k : Pc) (hn : v.nod = v) (hr : Ret Try.prog 59 [v] H (B false) H) : Ret Try.prog 42 [v, pcV k] H (I 1) H := by
 refine mk42 _ _ rfl (Nat.le_refl _) (.inl rfl) ?_
 simp only [vc42, real]
 repeat (first | (with_reducible first | refine Ju.go ?_ | (refine Hd.go ?_; intro K Q hK hQ; simp only [nod_agg, List.map_cons, nodL_imm, List.map_nil, e_bxI, okE_agg, lv_cons, List.length_nil, Nat.zero_add, Nat.reduceAdd, all_c, ck_I, all_n, Bool.and_self, and_true, true_and, hn]; subst hK hQ) | refine Jr.go ?_) | refine sd ?_)
 refine call_of hr ?_
 repeat (first | (with_reducible first | refine Ju.go ?_ | (refine Hd.go ?_; intro K Q hK hQ; simp only [nod_imm, e_not, Bool.not_false, e_cond, if_true]; subst hK hQ) | refine Jr.go ?_) | refine sd ?_)
 exact end1 (fzI _)
theorem c25n (H : Hp) (n : Int) : Ret Try.prog 25 [nilP, I n] H (I 1) H := by
 refine mk25 _ _ rfl (Nat.le_refl _) (.inl rfl) ?_
 simp only [vc25, real]
 repeat (first | (with_reducible first | refine Ju.go ?_ | (refine Hd.go ?_; intro K Q hK hQ; simp only [nod_imm, e_bxI, okE_nilP, true_and, okE_I, nod_cptr, e_ldc]; subst hK hQ) | refine Jr.go ?_) | refine sd ?_)
 refine call_of (c59n _) ?_
 repeat (first | (with_reducible first | refine Ju.go ?_ | (refine Hd.go ?_; intro K Q hK hQ; simp only [nod_imm, e_not, Bool.not_false, e_cond, if_true]; subst hK hQ) | refine Jr.go ?_) | refine sd ?_)
 exact end1 (fzI _)
theorem c25z {b : Nat} {H : Hp} (n : Int) (h : H[b]? = some (.cells zSpk)) : Ret Try.prog 25 [.ptr b 0, I n] H (I 1) H := by
 refine mk25 _ _ rfl (Nat.le_refl _) (.inl rfl) ?_
 simp only [vc25, real]
 repeat (first | (with_reducible first | refine Ju.go ?_ | (refine Hd.go ?_; intro K Q hK hQ; simp only [nod_ptr, e_bxI, okE_ptr, true_and, nod_imm, okE_I, nod_cptr, e_ldcP]; subst hK hQ) | refine Jr.go ?_) | refine sd ?_)
 refine call_of (c59z h) ?_
 repeat (first | (with_reducible first | refine Ju.go ?_ | (refine Hd.go ?_; intro K Q hK hQ; simp only [nod_imm, e_not, Bool.not_false, e_cond, if_true]; subst hK hQ) | refine Jr.go ?_) | refine sd ?_)
 exact end1 (fzI _)
theorem c37n {v : V} {H : Hp} (hn : v.nod = v) (hr : Ret Try.prog 59 [v] H (B false) H) : Ret Try.prog 37 [v] H (.arr [] .full) H := by
 refine mk37 _ rfl (Nat.le_refl _) (.inl rfl) ?_
 simp only [vc37, real]
 repeat (first | (with_reducible first | refine Ju.go ?_ | (refine Hd.go ?_; intro K Q hK hQ; simp only [hn]; subst hK hQ) | refine Jr.go ?_) | refine sd ?_)
 refine call_of hr ?_
 repeat (first | (with_reducible first | refine Ju.go ?_ | (refine Hd.go ?_; intro K Q hK hQ; simp only [nod_imm, e_not, Bool.not_false, e_cond, if_true]; subst hK hQ) | refine Jr.go ?_) | refine sd ?_)
 exact end1 (fz_nilF _ _)
theorem c36n {v : V} {H : Hp} (hn : v.nod = v) (hr : Ret Try.prog 59 [v] H (B false) H) : Ret Try.prog 36 [v] H (I 0) H := by
 refine mk36 _ rfl (Nat.le_refl _) (.inl rfl) ?_
 simp only [vc36, real]
 repeat (first | (with_reducible first | refine Ju.go ?_ | (refine Hd.go ?_; intro K Q hK hQ; simp only [hn]; subst hK hQ) | refine Jr.go ?_) | refine sd ?_)
 refine call_of hr ?_
 repeat (first | (with_reducible first | refine Ju.go ?_ | (refine Hd.go ?_; intro K Q hK hQ; simp only [nod_imm, e_not, Bool.not_false, e_cond, if_true]; subst hK hQ) | refine Jr.go ?_) | refine sd ?_)
 exact end1 (fzI _)
structure NilS (H : Hp) (lv sv : V) (G : Hp) : Prop where
 l : lv.nod = lv
 s : sv.nod = sv
 rl : Ret Try.prog 68 [lv] G (B false) G
 rs : ∀ X, Ret Try.prog 59 [sv] (G ++ X) (B false) (G ++ X)
 r25 : ∀ n, Ret Try.prog 25 [sv, I n] G (I 1) G
 t : ∀ c, c < H.length → G[c]? = H[c]?
 ln : H.length ≤ G.length
theorem c11 (p : Spc) (k : Pc) (g : Gn) (n : Int) (H : Hp) (sm : Sm p) : Ret Try.prog 11 [spV p, pcV k, gnV g, I n] H (B true) H := by
 refine mk11 _ _ _ _ rfl (Nat.le_refl _) (.inl rfl) ?_
 simp only [vc11, real]
 repeat (first | (with_reducible first | refine Ju.go ?_ | (refine Hd.go ?_; intro K Q hK hQ; simp only [nod_agg, List.map_cons, nodL_imm, nodL_ints, nd_no, nodL_arr, List.map_nil, e_bxI, okE_agg, lv_cons, List.length_nil, Nat.zero_add, Nat.reduceAdd, all_c, ck_I, ck_ints, ck_arr, all_n, Bool.and_self, and_true, true_and, nod_cptr, e_ldcA]; subst hK hQ) | refine Jr.go ?_) | refine sd ?_)
 refine call_of (c14 p _ sm) ?_
 cases hs : smB p
 ·repeat (first | (with_reducible first | refine Ju.go ?_ | (refine Hd.go ?_; intro K Q hK hQ; simp only [nod_imm, e_not, Bool.not_false, e_cond, if_true]; subst hK hQ) | refine Jr.go ?_) | refine sd ?_)
  refine call_of (c15x _) ?_
  repeat (first | (with_reducible first | refine Ju.go ?_ | (refine Hd.go ?_; intro K Q hK hQ; simp only [Try.underlying3, Try.underlying4, Try.underlying5, Try.underlying9, Try.underlying22, Try.underlying23, Try.underlying30, Try.underlying43, Try.underlying44, Try.underlying57, Try.underlying100, Try.underlying124, Try.underlying184, j_one, j_side, j_tl, j_fl, nod_nod, nod_imm, nod_ints, nd_no, nd_own, nd_full, nd_fO, oF_ap, oF_succ, nod_sl, nod_ptr, nod_cptr, nod_fn, nod_junk, nodL_imm, nod_agg, nod_tup, nod2_imm, nod2_agg, cl_imm, cl_ints, cl_agg, e_add, e_sub, e_mul, e_quo, e_rem, e_eql, e_neq, e_lss, e_leq, e_gtr, e_geq, e_beq, e_bne, e_neg, e_not, e_pick, e_cond, e_gT, e_gF, e_len, e_lenA, e_lenS, e_ix, e_ixS, e_ldc, e_ldci, e_fa, rep_cl, rep_I, e_bx, okE_I, okE_B, okE_E8, okE_ints, stV_imm, stV_ints, j_and', j_or', List.getD_cons_zero, List.getD_cons_succ, List.map_cons, List.map_nil, decide_eq_true_eq, Int.toNat_natCast, Nat.mul_one, Nat.zero_add, true_and, and_true, List.length_map, Bool.not_eq_true', decide_eq_false_iff_not, nod_lists, e_lenL, e_ixL, okE_lists, bs1, bs1L, bs2L, e_app, e_appL, e_app0, e_app0L, e_slcLo, e_slcHi, e_slcLH, e_slcHH, e_slcLHH, e_callG, e_callY, e_calmG, e_slS0, e_slSLo, e_slSHi, e_slSLH, e_slSHH, e_slSLHH, e_max2, e_min2, e_max3, e_x20, e_x21, e_x30, e_x31, e_x32, nod2_ints, nod2_lists, rep_fl, bs0, e_nilE, if_true, if_false, cond_true, cond_false, decide_true, decide_false, eq_self, Bool.false_eq_true, false_implies, true_implies, ap_own, ap_full, e_slcLoL, e_slcHiL, e_slcLHL, hp_assoc, hp_cons, hp_nil, hp_len, hp_len_cons, hp_len_nil, lv_cons, lv_nil, vs_0, vs_s, spl_s, spl_0, spl_n, dr_s, dr_0, tk_s, tk_0, e_bxI, e_fac, e_facA, e_ldcA, e_ldcL, e_ldcF, okE_agg, ck_I, ck_B, ck_ints, ck_lists, ck_arr, ck_ptr, ck_cptr, ck_fn, all_c, all_n, stV_agg, stV_lists, stV_arr, stV_ptr, stV_cptr, stV_fn, nodL_ints, nodL_lists, nodL_ptr, nodL_cptr, nodL_fn, nodL_arr0, cl_arr, cl_ptr, cl_cptr, cl_fn, cl_lists, okE_arr, okE_fn, okE_ptr, okE_cptr, e_bd0, e_bd1, e_wr, Nat.reduceAdd, Nat.reduceLeDiff, Nat.reduceEqDiff, Nat.add_zero, Bool.and_self, Bool.true_and, Bool.and_true, e_lc0, e_lA0, e_lM0, e_sc0, e_rc0, e_rA0, e_lI0, e_sI0, e_cI0, e_lc1, e_lA1, e_lM1, e_sc1, e_rc1, e_rA1, e_lI1, e_sI1, e_cI1, e_lc2, e_lA2, e_lM2, e_sc2, e_rc2, e_rA2, e_lI2, e_sI2, e_cI2, e_lc3, e_lA3, e_lM3, e_sc3, e_rc3, e_rA3, e_lI3, e_sI3, e_cI3, e_lc4, e_lA4, e_lM4, e_sc4, e_rc4, e_rA4, e_lI4, e_sI4, e_cI4, e_lc5, e_lA5, e_lM5, e_sc5, e_rc5, e_rA5, e_lI5, e_sI5, e_cI5, own0_arr, own0_ints, own0_lists, own0_imm, own0_ptr, own0_cptr, own0_fn, own0_agg, e_appB, e_appB0, ck_sl, own0_sl, stV_sl, nodL_sl, cl_sl, okE_sl, e_mkM, e_mkI, e_mkIm, e_callB, nod_bfn, nod_ifc, nod_map, nodL_ifc, nodL_bfn, nodL_map, cl_ifc, cl_bfn, ck_ifc, ck_bfn, ck_map, stV_ifc, okE_ifc, okE_bfn, nod_arr, nodL_arr, e_addU, e_mulU, e_shrK, e_shlK, e_andK, e_cv64, e_cv32, e_callEG, e_callEY, e_callEB, e_zr, e_nilSl, e_ncP, e_ncC, e_ncI, e_npnP, e_npeP, e_npnC, e_npeC, e_npnN, e_npeN, e_ixAP, e_ldcP, e_ldcS, e_ldcV, e_ldcT, okE_nilP, ck_nilP, okE_nilI, ck_nilI, okE_str, ck_str, e_tlen, e_tix, e_teq, e_tne, e_tadd, e_tb, e_u8lss, e_u8gtr, noV_full, nod_arr, List.length_map, reduceIte, Int.reduceEq, Int.reduceNeg, ne_eq, not_true_eq_false, not_false_eq_true, Bool.not_true, Bool.not_false, Bool.true_or, Bool.or_true, Bool.false_or, Bool.or_false, Bool.and_true, Bool.and_false, Bool.false_and, Bool.not_not, Bool.or_self, List.length_nil, Int.ofNat_zero, Int.cast_ofNat_Int, Int.natCast_zero, beq_self_eq_true, Bool.true_eq_false]; subst hK hQ) | refine Jr.go ?_) | refine sd ?_)
  exact end1 (fzI _)
 ·repeat (first | (with_reducible first | refine Ju.go ?_ | (refine Hd.go ?_; intro K Q hK hQ; simp only [nod_imm, e_not, Bool.not_true, e_cond, Bool.false_eq_true, if_false]; subst hK hQ) | refine Jr.go ?_) | refine sd ?_)
  refine loop_of (fun q : Nat × V × V × Hp => q.1 ≤ 2 ∧ NilS H q.2.1 q.2.2.1 q.2.2.2) (fun q => [I n, .cptr (spV p), .cptr (pcV k), .cptr (gnV g), q.2.1, q.2.2.1, I q.1]) (·.2.2.2) (fun q => 2 - q.1) (0, nilP, nilP, H) ⟨Nat.zero_le _, rfl, rfl, c68n H, fun X => c59n _, fun n => c25n H n, fun _ _ => rfl, Nat.le_refl _⟩ rfl rfl ?_
  rintro ⟨i, lv, sv, G⟩ ⟨hi, hN⟩
  simp only at hi hN ⊢
  obtain ⟨hl, hsn, rl, rs, r25, ht, hln⟩ := hN
  have rs0 := rs []
  rw [List.append_nil] at rs0
  repeat (first | (with_reducible first | refine Ju.go ?_ | (refine Hd.go ?_; intro K Q hK hQ; simp only [List.getD_cons_succ, List.getD_cons_zero, nod_imm, Try.underlying3, e_lss, e_cond, decide_eq_true_eq]; subst hK hQ) | refine Jr.go ?_) | refine sd ?_)
  by_cases hlt : i < 2
  ·have d : (i : Int) < 2 := by omega
   repeat (first | (with_reducible first | refine Ju.go ?_ | (refine Hd.go ?_; intro K Q hK hQ; simp only [d, if_true, List.getD_cons_succ, List.getD_cons_zero, nod_cptr, e_ldcA, lv_cons, List.length_nil, Nat.zero_add, Nat.reduceAdd, true_and, hl, nod_agg, List.map_cons, nodL_imm, List.map_nil]; subst hK hQ) | refine Jr.go ?_) | refine sd ?_)
   refine call_of (c27n g hl rl) ?_
   repeat (first | (with_reducible first | refine Ju.go ?_ | (refine Hd.go ?_; intro K Q hK hQ; simp only [nod_tup, List.map_cons, nod2_imm, List.map_nil, e_x20, e_x21, List.getD_cons_succ, List.getD_cons_zero, hl, nod_imm]; subst hK hQ) | refine Jr.go ?_) | refine sd ?_)
   refine call_of (c38n n n n n hl rl) ?_
   repeat (first | (with_reducible first | refine Ju.go ?_ | (refine Hd.go ?_; intro K Q hK hQ; simp only [nod_tup, List.map_cons, nod2_imm, List.map_nil, e_x20, e_x21, List.getD_cons_zero, List.getD_cons_succ, hl, nod_imm]; subst hK hQ) | refine Jr.go ?_) | refine sd ?_)
   refine call_of (c30n n n n n hl rl) ?_
   repeat (first | (with_reducible first | refine Ju.go ?_ | (refine Hd.go ?_; intro K Q hK hQ; simp only [nod_tup, List.map_cons, nod2_imm, List.map_nil, e_x20, e_x21, List.getD_cons_succ, List.getD_cons_zero, hl, nod_imm]; subst hK hQ) | refine Jr.go ?_) | refine sd ?_)
   refine call_of (c29n n hl rl) ?_
   repeat (first | (with_reducible first | refine Ju.go ?_ | (refine Hd.go ?_; intro K Q hK hQ; simp only [nod_tup, List.map_cons, nod2_imm, List.map_nil, e_x20, e_x21, List.getD_cons_zero, List.getD_cons_succ, hl]; subst hK hQ) | refine Jr.go ?_) | refine sd ?_)
   refine call_of (c39n hl rl) ?_
   repeat (first | (with_reducible first | refine Ju.go ?_ | (refine Hd.go ?_; intro K Q hK hQ; simp only [nod_tup, List.map_cons, nod2_imm, List.map_nil, e_x20, e_x21, List.getD_cons_succ, List.getD_cons_zero, nod_imm, Try.underlying30, e_neq, decide_true, Bool.not_true, e_gF, cond_false, j_one, Try.underlying3, Try.underlying44, e_npnN, hl]; subst hK hQ) | refine Jr.go ?_) | refine sd ?_)
   refine call_of (c28n n hl rl) ?_
   repeat (first | (with_reducible first | refine Ju.go ?_ | (refine Hd.go ?_; intro K Q hK hQ; simp only [nod_imm, e_neq, decide_true, Bool.not_true, List.getD_cons_zero, List.getD_cons_succ, e_cond, Bool.false_eq_true, if_false, nod_cptr, e_ldcA, lv_cons, List.length_nil, Nat.zero_add, Nat.reduceAdd, true_and, hsn, nod_agg, List.map_cons, nodL_imm, nodL_ints, nd_no, nodL_arr, List.map_nil]; subst hK hQ) | refine Jr.go ?_) | refine sd ?_)
   refine call_of (c22n p hsn rs0) ?_
   repeat (first | (with_reducible first | refine Ju.go ?_ | (refine Hd.go ?_; intro K Q hK hQ; simp only [nod_tup, List.map_cons, nod2_imm, List.map_nil, e_x20, e_x21, List.getD_cons_succ, List.getD_cons_zero, nod_cptr, e_ldcA, lv_cons, List.length_nil, Nat.zero_add, Nat.reduceAdd, true_and, hsn, nod_imm, nod_agg, nodL_imm, nodL_ints, nd_no, nodL_arr]; subst hK hQ) | refine Jr.go ?_) | refine sd ?_)
   refine call_of (c40n n p hsn rs0) ?_
   repeat (first | (with_reducible first | refine Ju.go ?_ | (refine Hd.go ?_; intro K Q hK hQ; simp only [nod_tup, List.map_cons, nod2_imm, List.map_nil, e_x20, e_x21, List.getD_cons_zero, List.getD_cons_succ, hsn, nod_imm]; subst hK hQ) | refine Jr.go ?_) | refine sd ?_)
   refine call_of (c23n n hsn rs0) ?_
   have z0 : ∀ K, aLen (V.arr [] .full).nod2.nod2.nod K = K (I 0) := fun K => rfl
   have z1 : ∀ K, aLen (V.arr [] .full) K = K (I 0) := fun K => rfl
   repeat (first | (with_reducible first | refine Ju.go ?_ | (refine Hd.go ?_; intro K Q hK hQ; simp only [nod_tup, List.map_cons, nod2_imm, List.map_nil, e_x30, e_x31, e_x32, List.getD_cons_succ, List.getD_cons_zero, nod_imm, Try.underlying30, e_neq, decide_true, Bool.not_true, e_gF, cond_false, j_one, nod_nod, z0, Try.underlying3, e_add, e_gtr, j_side, hsn]; subst hK hQ) | refine Jr.go ?_) | refine sd ?_)
   refine call_of (c41n n hsn rs0) ?_
   repeat (first | (with_reducible first | refine Ju.go ?_ | (refine Hd.go ?_; intro K Q hK hQ; simp only [nod_imm, e_neq, decide_true, Bool.not_true, List.getD_cons_succ, List.getD_cons_zero, hsn, Try.underlying30, e_gF, cond_false]; subst hK hQ) | refine Jr.go ?_) | refine sd ?_)
   refine call_of (c31n n hsn (rs _)) ?_
   repeat (first | (with_reducible first | refine Ju.go ?_ | (refine Hd.go ?_; intro K Q hK hQ; simp only [nod_imm, e_neq, decide_true, Bool.not_true, List.getD_cons_succ, List.getD_cons_zero, nod_cptr, hsn, Try.underlying30, e_ldcA, lv_cons, List.length_nil, Nat.zero_add, Nat.reduceAdd, nod_agg, List.map_cons, nodL_imm, List.map_nil, true_and, e_gF, cond_false]; subst hK hQ) | refine Jr.go ?_) | refine sd ?_)
   refine call_of (c42n k hsn rs0) ?_
   repeat (first | (with_reducible first | refine Ju.go ?_ | (refine Hd.go ?_; intro K Q hK hQ; simp only [nod_imm, e_neq, decide_true, Bool.not_true, List.getD_cons_succ, List.getD_cons_zero, hsn, Try.underlying30, e_gF, cond_false]; subst hK hQ) | refine Jr.go ?_) | refine sd ?_)
   refine call_of (r25 n) ?_
   repeat (first | (with_reducible first | refine Ju.go ?_ | (refine Hd.go ?_; intro K Q hK hQ; simp only [nod_imm, e_neq, decide_true, Bool.not_true, List.getD_cons_succ, List.getD_cons_zero, hsn, Try.underlying3, e_gF, cond_false]; subst hK hQ) | refine Jr.go ?_) | refine sd ?_)
   refine call_of (c37n hsn rs0) ?_
   repeat (first | (with_reducible first | refine Ju.go ?_ | (refine Hd.go ?_; intro K Q hK hQ; simp only [nod_arr, nd_full, z1, nod_imm, e_neq, decide_true, Bool.not_true, List.getD_cons_succ, List.getD_cons_zero, hsn, Try.underlying3, e_gF, cond_false]; subst hK hQ) | refine Jr.go ?_) | refine sd ?_)
   refine call_of (c36n hsn rs0) ?_
   repeat (first | (with_reducible first | refine Ju.go ?_ | (refine Hd.go ?_; intro K Q hK hQ; simp only [nod_imm, e_neq, decide_true, Bool.not_true, List.getD_cons_zero, List.getD_cons_succ, e_cond, Bool.false_eq_true, if_false, e_bd0, nod_agg, List.map_cons, nodL_imm, nodL_arr, nd_full, List.map_nil, e_bx, okE_agg, lv_cons, List.length_nil, Nat.zero_add, Nat.reduceAdd, all_c, ck_B, ck_arr, all_n, Bool.and_self, and_true, cl_agg, true_and, ck_nilI, ck_nilP, ck_I, hp_len, hp_len_cons, hp_assoc, hp_cons, hp_nil, Try.underlying3, e_add]; subst hK hQ) | refine Jr.go ?_) | refine sd ?_)
   have g1 : ∀ X : Hp, (G ++ [Blk.cells [B false, .arr [] .full], Blk.cells zSpk] ++ X)[G.length]? = some (.cells [B false, .arr [] .full]) := fun X => get_app (tail0 _ _)
   have g2 : ∀ X : Hp, (G ++ [Blk.cells [B false, .arr [] .full], Blk.cells zSpk] ++ X)[G.length + 1]? = some (.cells zSpk) := fun X => get_app (by rw [List.getElem?_append_right (by omega), Nat.add_sub_cancel_left]; rfl)
   have g10 := g1 []
   have g20 := g2 []
   rw [List.append_nil] at g10 g20
   have hN2 : NilS H (.ptr G.length 0) (.ptr (G.length + 1) 0) (G ++ [Blk.cells [B false, .arr [] .full], Blk.cells zSpk]) := ⟨rfl, rfl, c68z g10, fun X => c59z (g2 X), fun n => c25z n g20, fun c hc => by rw [List.getElem?_append_left (by omega)]; exact ht c hc, by rw [List.length_append]; omega⟩
   exact ⟨(i + 1, .ptr G.length 0, .ptr (G.length + 1) 0, _), ⟨by show i + 1 ≤ 2; omega, hN2⟩, rfl, rfl, by show 2 - (i + 1) < 2 - i; omega⟩
  ·have d : ¬ (i : Int) < 2 := by omega
   repeat (first | (with_reducible first | refine Ju.go ?_ | (refine Hd.go ?_; intro K Q hK hQ; simp only [d, if_false]; subst hK hQ) | refine Jr.go ?_) | refine sd ?_)
   refine call_of (c15x _) ?_
   repeat (first | (with_reducible first | refine Ju.go ?_ | (refine Hd.go ?_; intro K Q hK hQ; simp only [Try.underlying3, Try.underlying4, Try.underlying5, Try.underlying9, Try.underlying22, Try.underlying23, Try.underlying30, Try.underlying43, Try.underlying44, Try.underlying57, Try.underlying100, Try.underlying124, Try.underlying184, j_one, j_side, j_tl, j_fl, nod_nod, nod_imm, nod_ints, nd_no, nd_own, nd_full, nd_fO, oF_ap, oF_succ, nod_sl, nod_ptr, nod_cptr, nod_fn, nod_junk, nodL_imm, nod_agg, nod_tup, nod2_imm, nod2_agg, cl_imm, cl_ints, cl_agg, e_add, e_sub, e_mul, e_quo, e_rem, e_eql, e_neq, e_lss, e_leq, e_gtr, e_geq, e_beq, e_bne, e_neg, e_not, e_pick, e_cond, e_gT, e_gF, e_len, e_lenA, e_lenS, e_ix, e_ixS, e_ldc, e_ldci, e_fa, rep_cl, rep_I, e_bx, okE_I, okE_B, okE_E8, okE_ints, stV_imm, stV_ints, j_and', j_or', List.getD_cons_zero, List.getD_cons_succ, List.map_cons, List.map_nil, decide_eq_true_eq, Int.toNat_natCast, Nat.mul_one, Nat.zero_add, true_and, and_true, List.length_map, Bool.not_eq_true', decide_eq_false_iff_not, nod_lists, e_lenL, e_ixL, okE_lists, bs1, bs1L, bs2L, e_app, e_appL, e_app0, e_app0L, e_slcLo, e_slcHi, e_slcLH, e_slcHH, e_slcLHH, e_callG, e_callY, e_calmG, e_slS0, e_slSLo, e_slSHi, e_slSLH, e_slSHH, e_slSLHH, e_max2, e_min2, e_max3, e_x20, e_x21, e_x30, e_x31, e_x32, nod2_ints, nod2_lists, rep_fl, bs0, e_nilE, if_true, if_false, cond_true, cond_false, decide_true, decide_false, eq_self, Bool.false_eq_true, false_implies, true_implies, ap_own, ap_full, e_slcLoL, e_slcHiL, e_slcLHL, hp_assoc, hp_cons, hp_nil, hp_len, hp_len_cons, hp_len_nil, lv_cons, lv_nil, vs_0, vs_s, spl_s, spl_0, spl_n, dr_s, dr_0, tk_s, tk_0, e_bxI, e_fac, e_facA, e_ldcA, e_ldcL, e_ldcF, okE_agg, ck_I, ck_B, ck_ints, ck_lists, ck_arr, ck_ptr, ck_cptr, ck_fn, all_c, all_n, stV_agg, stV_lists, stV_arr, stV_ptr, stV_cptr, stV_fn, nodL_ints, nodL_lists, nodL_ptr, nodL_cptr, nodL_fn, nodL_arr0, cl_arr, cl_ptr, cl_cptr, cl_fn, cl_lists, okE_arr, okE_fn, okE_ptr, okE_cptr, e_bd0, e_bd1, e_wr, Nat.reduceAdd, Nat.reduceLeDiff, Nat.reduceEqDiff, Nat.add_zero, Bool.and_self, Bool.true_and, Bool.and_true, e_lc0, e_lA0, e_lM0, e_sc0, e_rc0, e_rA0, e_lI0, e_sI0, e_cI0, e_lc1, e_lA1, e_lM1, e_sc1, e_rc1, e_rA1, e_lI1, e_sI1, e_cI1, e_lc2, e_lA2, e_lM2, e_sc2, e_rc2, e_rA2, e_lI2, e_sI2, e_cI2, e_lc3, e_lA3, e_lM3, e_sc3, e_rc3, e_rA3, e_lI3, e_sI3, e_cI3, e_lc4, e_lA4, e_lM4, e_sc4, e_rc4, e_rA4, e_lI4, e_sI4, e_cI4, e_lc5, e_lA5, e_lM5, e_sc5, e_rc5, e_rA5, e_lI5, e_sI5, e_cI5, own0_arr, own0_ints, own0_lists, own0_imm, own0_ptr, own0_cptr, own0_fn, own0_agg, e_appB, e_appB0, ck_sl, own0_sl, stV_sl, nodL_sl, cl_sl, okE_sl, e_mkM, e_mkI, e_mkIm, e_callB, nod_bfn, nod_ifc, nod_map, nodL_ifc, nodL_bfn, nodL_map, cl_ifc, cl_bfn, ck_ifc, ck_bfn, ck_map, stV_ifc, okE_ifc, okE_bfn, nod_arr, nodL_arr, e_addU, e_mulU, e_shrK, e_shlK, e_andK, e_cv64, e_cv32, e_callEG, e_callEY, e_callEB, e_zr, e_nilSl, e_ncP, e_ncC, e_ncI, e_npnP, e_npeP, e_npnC, e_npeC, e_npnN, e_npeN, e_ixAP, e_ldcP, e_ldcS, e_ldcV, e_ldcT, okE_nilP, ck_nilP, okE_nilI, ck_nilI, okE_str, ck_str, e_tlen, e_tix, e_teq, e_tne, e_tadd, e_tb, e_u8lss, e_u8gtr, noV_full, nod_arr, List.length_map, reduceIte, Int.reduceEq, Int.reduceNeg, ne_eq, not_true_eq_false, not_false_eq_true, Bool.not_true, Bool.not_false, Bool.true_or, Bool.or_true, Bool.false_or, Bool.or_false, Bool.and_true, Bool.and_false, Bool.false_and, Bool.not_not, Bool.or_self, List.length_nil, Int.ofNat_zero, Int.cast_ofNat_Int, Int.natCast_zero, beq_self_eq_true, Bool.true_eq_false]; subst hK hQ) | refine Jr.go ?_) | refine sd ?_)
   exact end1T (fzI _) (take_low ht hln)
open Go.ChangeShapes Go.WideShapes Go.ChangeAt Go.RowKit
theorem own : ownKnob Try.prog.godebug = none := by kernel_rfl
theorem laidOut : laidOutB Try.prog = true := by kernel_rfl
set_option maxRecDepth 100000 in
theorem lifted (os : Os) (started : os.Started) (H : Type) (enc : TypeId × Value → H) :
    ReturnsInHanded {} Try.checked os 11 .any (Rows.streamNilSpec.pre6 enc Try.prog Try.f11 Rows.streamNilRow.domain false) (Rows.streamNilSpec.post enc Try.prog Try.f11 false true false false) := by
  refine returnsInHanded_of_change (C := Try.checked) own started (by kernel_rfl) Try.func11
    (ChangeSpec.witness6 (enc := enc) (C := Try.checked) false ⟨#[], #[.agg #[.int .i64 0, .int .i64 0, .slice none 0 0, .slice none 0 0, .slice none 0 0, .int .i64 0], .agg #[.int .i64 0, .int .i64 0], .agg #[.int .i64 0, .int .i64 0, .int .i64 0, .int .i64 0, .int .i64 0], .int .i64 0], []⟩ 8 (by kernel_rfl) (by kernel_rfl) (by kernel_rfl) (by kernel_rfl)) ?_
  intro W base args ds gs before hval0 hW hcnd _
  have hval : ∀ (j : Nat) t v, Try.f11.params[j]? = some t → args[j]? = some v → Value.okWide Try.prog W .any base t v := hval0
  have hW' := hW
  obtain ⟨p, q, hA0, hV, rfl, hfz, hnd⟩ := hW
  have hA : DataW.TrodAll enc Try.prog W 0 (fun _ => true) true Try.f11.params.toList args.toList ds p := hA0
  rw [Try.params11] at hA hval
  obtain ⟨v0, vs0, d0, ds0, p0, q0, hargs, rfl, rfl, h0, r0⟩ := trodAll_cons hA
  obtain ⟨v1, vs1, d1, ds1, p1, q1, rfl, rfl, rfl, h1, r1⟩ := trodAll_cons r0
  obtain ⟨v2, vs2, d2, ds2, p2, q2, rfl, rfl, rfl, h2, r2⟩ := trodAll_cons r1
  obtain ⟨v3, vs3, d3, ds3, p3, q3, rfl, rfl, rfl, h3, r3⟩ := trodAll_cons r2
  obtain ⟨rfl, rfl, rfl⟩ := trodAll_nil r3
  obtain rfl : args = #[v0, v1, v2, v3] := by cases args; simp_all
  obtain ⟨rfl, rfl⟩ := trodVars_none hV
  have lt0 : ∀ x ∈ p0, x.block < W.heap.size := by obtain ⟨m, hm⟩ := h0; exact DataW.trod_lt m _ _ _ hm
  obtain ⟨l0, w0, e0⟩ := in_sp (hval 0 _ v0 rfl rfl) h0
  have lt1 : ∀ x ∈ p1, x.block < W.heap.size := by obtain ⟨m, hm⟩ := h1; exact DataW.trod_lt m _ _ _ hm
  obtain ⟨l1, e1⟩ := in_pc (hval 1 _ v1 rfl rfl) h1
  have lt2 : ∀ x ∈ p2, x.block < W.heap.size := by obtain ⟨m, hm⟩ := h2; exact DataW.trod_lt m _ _ _ hm
  obtain ⟨l2, e2⟩ := in_gn (hval 2 _ v2 rfl rfl) h2
  have lt3 : ∀ x ∈ p3, x.block < W.heap.size := by obtain ⟨m, hm⟩ := h3; exact DataW.trod_lt m _ _ _ hm
  obtain ⟨n3, e3, w3⟩ := in_int Try.underlying3 (hval 3 _ v3 rfl rfl) h3
  clear hA0 hval0
  refine (bridge (args := [spV l0, pcV l1, gnV l2, I n3]) (ra := #[v0, v1, v2, v3]) (c11 l0 l1 l2 n3 [] w0) rfl (by intro a ha; simp at ha; rcases ha with rfl | rfl | rfl | rfl <;> rfl) (fun i => ?_)).mono fun e W' ⟨he, bel⟩ => ?_
  · match i with
    | 0 => exact e0
    | 1 => exact e1
    | 2 => exact e2
    | 3 => exact e3
    | i + 4 => exact .junk _
  · subst he
    exact ⟨_, rfl, _, _, _, [], _, [], hW', trodAll_mk1 (shut_bool Try.underlying4 _), (trodAll_cons_mk (Below.trod laidOut (by kernel_rfl) (of_decide_eq_true (by kernel_rfl)) h0 bel lt0) (trodAll_cons_mk (Below.trod laidOut (by kernel_rfl) (of_decide_eq_true (by kernel_rfl)) h1 bel lt1) (trodAll_cons_mk (Below.trod laidOut (by kernel_rfl) (of_decide_eq_true (by kernel_rfl)) h2 bel lt2) (trodAll_cons_mk (Below.trod laidOut (by kernel_rfl) (of_decide_eq_true (by kernel_rfl)) h3 bel lt3) trodAll_mk0)))), rfl, bel.frame _, fun h => by cases h⟩
theorem over : Rows.streamNilRow.holds Try.pinned (OpenSpec.ofChange Rows.streamNilSpec) :=
 OpenClaim.holds_of_wide 11 Try.f11 rfl rfl rfl rfl rfl rfl rfl ⟨rfl, rfl, rfl, rfl, rfl⟩ rfl rfl rfl rfl rfl (by kernel_rfl) Try.func11 (by kernel_rfl)
  (of_decide_eq_true (by kernel_rfl)) (by unfold Func.isWrapper; first | (rw [if_pos (by decide +kernel)]; kernel_rfl) | (rw [if_neg (by decide +kernel)]; exact ⟨rfl, rfl⟩))
  (fun os started H enc _ => lifted os started H enc)
theorem streamNil_holds : Rows.StreamNilSaid := over
#print axioms streamNil_holds
end Go.Proofs.Ytlnjhnemmemloaa
