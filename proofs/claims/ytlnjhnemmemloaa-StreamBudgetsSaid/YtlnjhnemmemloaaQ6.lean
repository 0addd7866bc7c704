/- What is used up of grants, and what was taken: true for every input. -/
import Derived.Test.YtlnjhnemmemloaaP6
import Derived.Test.YtlnjhnemmemloaaProg
import Derived.Test.YtlnjhnemmemloaaRows

set_option linter.unusedVariables false
set_option linter.unusedSimpArgs false
set_option linter.unnecessarySimpa false
set_option maxRecDepth 20000
set_option maxHeartbeats 2000000
namespace Go.Proofs.Ytlnjhnemmemloaa
open Go Go.Ab Go.Proofs
attribute [local congr] g_bin g_nilS g_nilP g_un g_ext g_bx g_fa g_ld g_st g_ix g_ixA g_slc g_mk g_bs g_bd g_nc g_cv g_len g_lenT g_app g_appB g_cpy g_mm g_call g_callG g_calm g_calmG g_range g_res g_pick g_cond g_loop g_Jv g_eqS g_eqP g_fd g_ixT g_ta g_lkp g_upd g_mkM g_appS g_inv g_callE g_callEG g_invE g_zr g_wr
open Go.ChangeShapes Go.WideShapes Go.ChangeAt Go.RowKit
theorem in_one {H α : Type} {enc : TypeId × Value → H} {W : World} {base : Nat} {t e : TypeId} {v : Value} {d : DataW H} {p : List MemPlace} {f : α → V} (ht : Try.prog.underlying t = some (.slice e)) (ho : Opens enc W t f) (hcl : ∀ x, (f x).cl = [f x]) (hv : Value.okWide Try.prog W .any base t v)
    (hA : DataW.Trod enc Try.prog W 0 (fun _ => true) true t v d p) : ∃ x : α, Rel (sg0 W) W (f x) v := by
  obtain ⟨a, len, cap, rfl⟩ := okWide_slice ht hv
  obtain ⟨fuel, hf⟩ := hA
  obtain ⟨l, hl⟩ := ho _ _ _ hf
  rw [hcl] at hl
  exact ⟨l, (cr1' hl).1⟩
def gnL (g : Gn) : List V := [I g.vo, I g.us, I g.fr, I g.un, I g.bu]
theorem opens41 {H : Type} {enc : TypeId × Value → H} {W : World} : Opens enc W 41 fun g : Gn => .agg (gnL g) := fun n cs y h => by
 obtain ⟨hl, hf⟩ := fields Try.underlying41 h
 rw [show Try.prog.cellsOf 41 = 5 by kernel_rfl] at hl
 match cs, hl with
 | [c0, c1, c2, c3, c4], _ =>
  obtain ⟨a, ha⟩ := one (opens3 (enc := enc)) (fun _ => rfl) (fld1 (hf 0 _ rfl) k3 rfl)
  obtain ⟨b, hb⟩ := one (opens3 (enc := enc)) (fun _ => rfl) (fld1 (hf 1 _ rfl) k3 rfl)
  obtain ⟨c, hc⟩ := one (opens3 (enc := enc)) (fun _ => rfl) (fld1 (hf 2 _ rfl) k3 rfl)
  obtain ⟨d, hd⟩ := one (opens3 (enc := enc)) (fun _ => rfl) (fld1 (hf 3 _ rfl) k3 rfl)
  obtain ⟨e, he⟩ := one (opens3 (enc := enc)) (fun _ => rfl) (fld1 (hf 4 _ rfl) k3 rfl)
  exact ⟨⟨a, b, c, d, e⟩, cr_cons ha (cr_cons hb (cr_cons hc (cr_cons hd (cr_cons he cr_nil))))⟩
theorem in_gn {H : Type} {enc : TypeId × Value → H} {W : World} {base : Nat} {v : Value} {d : DataW H} {p : List MemPlace} (hv : Value.okWide Try.prog W .any base 41 v) (hA : DataW.Trod enc Try.prog W 0 (fun _ => true) true 41 v d p) : ∃ g : Gn, Rel (sg0 W) W (gnV g) v := in_agg (g := gnL) Try.underlying41 opens41 (fun _ => rfl) hv hA
theorem in_is {H : Type} {enc : TypeId × Value → H} {W : World} {base : Nat} {v : Value} {d : DataW H} {p : List MemPlace} (hv : Value.okWide Try.prog W .any base 22 v) (hA : DataW.Trod enc Try.prog W 0 (fun _ => true) true 22 v d p) : ∃ l : List Int, l.length ≤ 9223372036854775807 ∧ Rel (sg0 W) W (ints l .no) v := by
 obtain ⟨x, hx⟩ := in_one Try.underlying22 (opens22 (enc := enc)) (fun _ => rfl) hv hA
 exact ⟨x.1, x.2, hx⟩
end Go.Proofs.Ytlnjhnemmemloaa
set_option maxHeartbeats 4000000
namespace Go.Proofs.Ytlnjhnemmemloaa
open Go Go.Ab Go.Proofs
def an6 : An := { imm := [8], jn := [(7, [0, 3, 4, 5]), (10, [0, 3, 4, 5, 6, 7]), (13, [0, 3, 4, 5, 6, 7, 8, 35]), (16, [0, 3, 4, 5, 6, 7, 8, 46]), (23, [0, 3, 4, 5, 6, 7, 8, 12]), (25, [0, 3, 4, 5, 6, 7]), (30, [0, 3, 4, 5, 6, 7, 13, 14, 15, 16]), (31, [0, 3, 4, 5, 6, 7, 13, 14, 15, 135])], lp := [(9, [0, 3, 4, 5, 6, 7]), (27, [0, 3, 4, 5, 6, 7, 13, 14])], loud := [55], ord := [] }
def vc6 (C : Cb) (a0 : V) (H : Hp) (R : List V → Hp → Prop) : Prop :=
 C.aLen a0.nod.nod fun v1 =>
 C.aBin (Try.prog.underlying 3) .gtr v1.nod (I 40) fun v2 =>
 aCond v2.nod (
 C.callE 15 [] H fun v3 H4 =>
 R [v3] H4) (
 C.callE 26 [] H fun v5 H6 =>
 C.aNilP (Try.prog.underlying 43) .eql v5.nod.nod fun v7 =>
 aCond v7.nod (
 R [(B false)] H6) (
 Jn (fun l8 H9 =>
 LoopA (fun l11 H12 K13 =>
 C.aLen (l11.getD 0 .junk).nod.nod fun v14 =>
 C.aBin (Try.prog.underlying 3) .lss (l11.getD 5 .junk).nod.nod v14.nod fun v15 =>
 aCond v15.nod (
 Jn (fun l16 H17 =>
 C.aBin (Try.prog.underlying 3) .add (l16.getD 5 .junk).nod.nod (I 1) fun v19 =>
 K13 [(l16.getD 0 .junk), (l16.getD 1 .junk), (l16.getD 2 .junk), (l16.getD 3 .junk), (l16.getD 4 .junk), v19] H17)
 (fun R18 =>
 C.aIx 10 (l11.getD 0 .junk).nod.nod (l11.getD 5 .junk).nod.nod fun v20 =>
 C.aLd 10 true false v20.nod H12 fun v21 H22 =>
 C.aBx true 10 v21.nod H22 fun v23 H24 =>
 Jn (fun l25 H26 =>
 LoopA (fun l28 H29 K30 =>
 C.aLen (l28.getD 2 .junk).nod.nod fun v31 =>
 C.aBin (Try.prog.underlying 3) .lss (l28.getD 7 .junk).nod.nod v31.nod fun v32 =>
 aCond v32.nod (
 Jn (fun l33 H34 =>
 Jn (fun l36 H37 =>
 aCond (l36.getD 9 .junk).nod (
 R [(B false)] H37) (
 C.aBin (Try.prog.underlying 3) .add (l36.getD 6 .junk).nod.nod (l36.getD 8 .junk).nod.nod fun v39 =>
 C.aBin (Try.prog.underlying 3) .add (l36.getD 7 .junk).nod.nod (I 1) fun v40 =>
 K30 [(l36.getD 0 .junk), (l36.getD 1 .junk), (l36.getD 2 .junk), (l36.getD 3 .junk), (l36.getD 4 .junk), (l36.getD 5 .junk), v39, v40] H37))
 (fun R38 =>
 C.aBin (Try.prog.underlying 30) .neq (l33.getD 9 .junk).nod.nod (I 0) fun v41 =>
 Jv (fun v42 H43 =>
 Jv (fun v46 H47 =>
 Jv (fun v53 H54 =>
 R38 [(l33.getD 0 .junk), (l33.getD 1 .junk), (l33.getD 2 .junk), (l33.getD 3 .junk), (l33.getD 4 .junk), (l33.getD 5 .junk), (l33.getD 6 .junk), (l33.getD 7 .junk), (l33.getD 8 .junk), v53] H54)
 (fun R55 =>
 aG v46.nod false (
 C.aIx 1 (l33.getD 3 .junk).nod.nod (l33.getD 7 .junk).nod.nod fun v56 =>
 C.aLd 1 false false v56.nod H47 fun v57 H58 =>
 C.aBin (Try.prog.underlying 3) .geq v57.nod (I 0) fun v59 =>
 aG v59.nod true (
 C.aIx 1 (l33.getD 3 .junk).nod.nod (l33.getD 7 .junk).nod.nod fun v60 =>
 C.aLd 1 false false v60.nod H58 fun v61 H62 =>
 C.aBin (Try.prog.underlying 3) .neq (l33.getD 8 .junk).nod.nod v61.nod fun v63 =>
 R55 v63.nod.nod H62) (
 R55 (B false) H58)) (
 UD = UD ∧
 UD = UD ∧
 UD = UD ∧
 UD = UD ∧
 UD = UD ∧
 UD = UD ∧
 R55 (B true) H47)))
 (fun R48 =>
 aG v42.nod false (
 C.aIx 1 (l33.getD 2 .junk).nod.nod (l33.getD 7 .junk).nod.nod fun v49 =>
 C.aLd 1 false false v49.nod H43 fun v50 H51 =>
 C.aBin (Try.prog.underlying 3) .gtr (l33.getD 8 .junk).nod.nod v50.nod fun v52 =>
 R48 v52.nod H51) (
 R48 (B true) H43)))
 (fun R44 =>
 aG v41.nod false (
 C.aBin (Try.prog.underlying 3) .lss (l33.getD 8 .junk).nod.nod (I 0) fun v45 =>
 R44 v45.nod H34) (
 R44 (B true) H34))))
 (fun R35 =>
 C.callE 29 [(l28.getD 1 .junk).nod.nod, (l28.getD 7 .junk).nod.nod] H29 fun v64 H65 =>
 C.aExt 0 v64.nod.nod fun v66 =>
 C.aExt 1 v64.nod.nod fun v67 =>
 R35 [(l28.getD 0 .junk), (l28.getD 1 .junk), (l28.getD 2 .junk), (l28.getD 3 .junk), (l28.getD 4 .junk), (l28.getD 5 .junk), (l28.getD 6 .junk), (l28.getD 7 .junk), v66, v67] H65)) (
 C.aBin (Try.prog.underlying 3) .neq (l28.getD 6 .junk).nod.nod (l28.getD 4 .junk).nod.nod fun v68 =>
 aCond v68.nod (
 R [(B false)] H29) (
 R18 [(l28.getD 0 .junk), (l28.getD 1 .junk), (l28.getD 2 .junk), (l28.getD 3 .junk), (l28.getD 4 .junk), (l28.getD 5 .junk)] H29)))
 [(l25.getD 0 .junk), (l25.getD 1 .junk), (l25.getD 2 .junk), (l25.getD 3 .junk), (l25.getD 4 .junk), (l25.getD 5 .junk), (I 0), (I 0)] H26)
 (fun R27 =>
 Jn (fun l69 H70 =>
 C.aBin (Try.prog.underlying 3) .eql (l69.getD 7 .junk).nod (I 1) fun v72 =>
 aCond v72.nod (
 C.aFA 1 5 true (l69.getD 6 .junk).nod fun v73 =>
 C.aLd 5 true false v73.nod H70 fun v74 H75 =>
 C.callE 27 [(l69.getD 1 .junk).nod.nod, v74.nod] H75 fun v76 H77 =>
 C.aExt 0 v76.nod.nod fun v78 =>
 C.aExt 1 v76.nod.nod fun v79 =>
 Jn (fun l80 H81 =>
 aCond (l80.getD 7 .junk).nod (
 C.aFA 1 5 true (l80.getD 6 .junk).nod fun v83 =>
 C.aFA 4 1 false v83.nod fun v84 =>
 C.aLd 1 false false v84.nod H81 fun v85 H86 =>
 C.aBS 1 1 (I 0) [(0, v85.nod)] fun v87 =>
 C.aApp 1 8 (l80.getD 2 .junk) v87.nod fun v88 =>
 C.aBS 1 1 (I 0) [(0, (I (-1)))] fun v89 =>
 C.aAppS 1 8 (l80.getD 3 .junk) v89.nod H86 fun v90 H91 =>
 R27 [(l80.getD 0 .junk), (l80.getD 1 .junk), v88, v90, (l80.getD 4 .junk), (l80.getD 5 .junk)] H91) (
 R27 [(l80.getD 0 .junk), (l80.getD 1 .junk), (l80.getD 2 .junk), (l80.getD 3 .junk), (l80.getD 4 .junk), (l80.getD 5 .junk)] H81))
 (fun R82 =>
 C.aBin (Try.prog.underlying 30) .eql v79.nod.nod (I 0) fun v92 =>
 R82 [(l69.getD 0 .junk), (l69.getD 1 .junk), (l69.getD 2 .junk), (l69.getD 3 .junk), (l69.getD 4 .junk), (l69.getD 5 .junk), (l69.getD 6 .junk), v92] H77)) (
 C.aBin (Try.prog.underlying 3) .eql (l69.getD 7 .junk).nod (I 2) fun v93 =>
 aCond v93.nod (
 C.aFA 8 1 false (l69.getD 6 .junk).nod fun v94 =>
 C.aLd 1 false false v94.nod H70 fun v95 H96 =>
 C.callE 28 [(l69.getD 1 .junk).nod.nod, v95.nod] H96 fun v97 H98 =>
 C.aBin (Try.prog.underlying 30) .eql v97.nod (I 0) fun v99 =>
 aCond v99.nod (
 C.aFA 8 1 false (l69.getD 6 .junk).nod fun v100 =>
 C.aLd 1 false false v100.nod H98 fun v101 H102 =>
 C.aFA 8 1 false (l69.getD 6 .junk).nod fun v103 =>
 C.aLd 1 false false v103.nod H102 fun v104 H105 =>
 C.calm 29 [(l69.getD 1 .junk).nod.nod, v104.nod] H105 fun v106 =>
 C.aExt 0 v106.nod.nod fun v107 =>
 C.aExt 1 v106.nod.nod fun v108 =>
 C.aIx 1 (l69.getD 3 .junk).nod.nod v101.nod fun v109 =>
 C.aSt 1 v109.nod v107 H105 fun v110 H111 =>
 R27 [(l69.getD 0 .junk), (l69.getD 1 .junk), (l69.getD 2 .junk), (l69.getD 3 .junk), (l69.getD 4 .junk), (l69.getD 5 .junk)] H111) (
 R27 [(l69.getD 0 .junk), (l69.getD 1 .junk), (l69.getD 2 .junk), (l69.getD 3 .junk), (l69.getD 4 .junk), (l69.getD 5 .junk)] H98)) (
 C.aBin (Try.prog.underlying 3) .eql (l69.getD 7 .junk).nod (I 4) fun v112 =>
 aCond v112.nod (
 Jn (fun l113 H114 =>
 C.aBin (Try.prog.underlying 30) .eql (l113.getD 7 .junk).nod.nod (I 0) fun v116 =>
 aCond v116.nod (
 C.aFA 8 1 false (l113.getD 6 .junk).nod fun v117 =>
 C.aLd 1 false false v117.nod H114 fun v118 H119 =>
 C.aBin (Try.prog.underlying 3) .add (l113.getD 4 .junk).nod.nod v118.nod fun v120 =>
 R27 [(l113.getD 0 .junk), (l113.getD 1 .junk), (l113.getD 2 .junk), (l113.getD 3 .junk), v120, (l113.getD 5 .junk)] H119) (
 R27 [(l113.getD 0 .junk), (l113.getD 1 .junk), (l113.getD 2 .junk), (l113.getD 3 .junk), (l113.getD 4 .junk), (l113.getD 5 .junk)] H114))
 (fun R115 =>
 C.aFA 6 1 false (l69.getD 6 .junk).nod fun v121 =>
 C.aLd 1 false false v121.nod H70 fun v122 H123 =>
 C.aFA 7 1 false (l69.getD 6 .junk).nod fun v124 =>
 C.aLd 1 false false v124.nod H123 fun v125 H126 =>
 C.aFA 8 1 false (l69.getD 6 .junk).nod fun v127 =>
 C.aLd 1 false false v127.nod H126 fun v128 H129 =>
 C.aFA 9 1 false (l69.getD 6 .junk).nod fun v130 =>
 C.aLd 1 false false v130.nod H129 fun v131 H132 =>
 C.callE 30 [(l69.getD 1 .junk).nod.nod, v122.nod, v125.nod, v128.nod, v131.nod] H132 fun v133 H134 =>
 C.aExt 0 v133.nod.nod fun v135 =>
 C.aExt 1 v133.nod.nod fun v136 =>
 R115 [(l69.getD 0 .junk), (l69.getD 1 .junk), (l69.getD 2 .junk), (l69.getD 3 .junk), (l69.getD 4 .junk), (l69.getD 5 .junk), (l69.getD 6 .junk), v136] H134)) (
 R27 [(l69.getD 0 .junk), (l69.getD 1 .junk), (l69.getD 2 .junk), (l69.getD 3 .junk), (l69.getD 4 .junk), (l69.getD 5 .junk)] H70))))
 (fun R71 =>
 C.aFA 0 1 false v23.nod fun v137 =>
 C.aLd 1 false false v137.nod H24 fun v138 H139 =>
 R71 [(l11.getD 0 .junk), (l11.getD 1 .junk), (l11.getD 2 .junk), (l11.getD 3 .junk), (l11.getD 4 .junk), (l11.getD 5 .junk), v23, v138] H139)))) (
 C.callE 15 [] H12 fun v140 H141 =>
 R [v140] H141))
 [(l8.getD 0 .junk), (l8.getD 1 .junk), (l8.getD 2 .junk), (l8.getD 3 .junk), (I 0), (I 0)] H9)
 (fun R10 =>
 R10 [a0, v5, (V.arr [] .full), (V.arr [] .full)] H6)))
theorem wf6 : (Nat.ble 1 Try.f6.ntmps && wfC an6 Try.f6.ntmps (Try.f6.body.getD .skip)) = true := by kernel_rfl
theorem tie6 (C : Cb) (a0 : V) (H : Hp) (R : List V → Hp → Prop) : wpG Try.prog C an6 (Try.f6.body.getD .skip) (argF [a0]) H (retG Try.prog C Try.f6 R) (fun _ _ _ => False) (retG Try.prog C Try.f6 R) = vc6 C a0 H R := by kernel_rfl
theorem mk6 (a0 : V) {H : Hp} {v : V} {H1 : Hp} (hd : v.Nd) (hn : H.length ≤ H1.length) (hb : H1 = H ∨ ∀ (b : Nat) (blk : Blk), H1[b]? = some blk → H[b]? = some blk ∨ BelB H1.length blk) (h : vc6 (real Try.prog) a0 H (retF v H1)) : Ret Try.prog 6 [a0] H v H1 :=
 ret_mk (an := an6) hm Try.call6 Try.func6 rfl wf6 hd hn hb (Eq.mpr (tie6 (real Try.prog) a0 H (retF v H1)) h)
theorem mkE6 (a0 : V) {H : Hp} {Q : V → Hp → Prop} (h : vc6 (real Try.prog) a0 H (retW Q)) : RetE Try.prog 6 [a0] H Q :=
 retE_mk (an := an6) hm Try.call6 Try.func6 rfl wf6 (Eq.mpr (tie6 (real Try.prog) a0 H (retW Q)) h)
theorem mko6 (a0 : V) {H : Hp} {xs : List V} {H1 : Hp} (hn : H.length ≤ H1.length) (hb : H1 = H ∨ ∀ (b : Nat) (blk : Blk), H1[b]? = some blk → H[b]? = some blk ∨ BelB H1.length blk) (h : vc6 (real Try.prog) a0 H (retO xs H1)) : Ret Try.prog 6 [a0] H (.arr xs .own) H1 :=
 ret_mko (an := an6) (t := 2) hm Try.call6 Try.func6 rfl wf6 rfl hn hb (Eq.mpr (tie6 (real Try.prog) a0 H (retO xs H1)) h)
end Go.Proofs.Ytlnjhnemmemloaa
set_option maxHeartbeats 2000000
namespace Go.Proofs.Ytlnjhnemmemloaa
open Go Go.Ab Go.Proofs
attribute [local congr] g_bin g_nilS g_nilP g_un g_ext g_bx g_fa g_ld g_st g_ix g_ixA g_slc g_mk g_bs g_bd g_nc g_cv g_len g_lenT g_app g_appB g_cpy g_mm g_call g_callG g_calm g_calmG g_range g_res g_pick g_cond g_loop g_Jv g_eqS g_eqP g_fd g_ixT g_ta g_lkp g_upd g_mkM g_appS g_inv g_callE g_callEG g_invE g_zr g_wr
structure Dd where
 k : Int
 g : Gn
 vo : Int
 us : Int
 n : Int
 t : Int
deriving Inhabited, DecidableEq
abbrev ddL (d : Dd) : List V := [I d.k, I d.g.vo, I d.g.us, I d.g.fr, I d.g.un, I d.g.bu, I d.vo, I d.us, I d.n, I d.t]
abbrev ddV (d : Dd) : V := .agg (ddL d)
theorem ix_dd (l : List Dd) (f : Fl) (i : Int) {K : V → Prop} : aIx 10 (.arr (l.map ddV) f) (I i) K = (0 ≤ i ∧ i < l.length ∧ K (.cptr (ddV (l.getD i.toNat default)))) := e_ixE ddV default (fun _ => rfl) l f i
def cls (gs : List Gr) : List Int := gs.map fun g => if g.wd then g.ud else -1
def bus (gs : List Gr) : List Int := gs.map fun g => g.g.bu
def sumU (gs : List Gr) : Int := (gs.map fun g => g.ud).sum
theorem sumU_snoc (l : List Gr) (g : Gr) : sumU (l ++ [g]) = sumU l + g.ud := by unfold sumU; simp
theorem sumU_rng {l : List Gr} (h : ∀ g, g ∈ l → GOk g) : 0 ≤ sumU l ∧ sumU l ≤ l.length * 1099511627776 := by
 induction l with
 | nil => exact ⟨Int.le_refl _, by decide⟩
 | cons x l ih =>
  have h1 := h x (by simp)
  have h2 := ih fun j hj => h j (by simp [hj])
  have e : sumU (x :: l) = x.ud + sumU l := by unfold sumU; simp
  have := h1.u0
  have := h1.u1
  have := h1.b1
  rw [e, List.length_cons]
  omega
theorem sumU_set {l : List Gr} {i : Nat} (hi : i < l.length) (y : Gr) : sumU (l.set i y) = sumU l - (l.getD i default).ud + y.ud := by
 induction l generalizing i with
 | nil => cases hi
 | cons x l ih =>
  cases i with
  | zero => unfold sumU; simp; omega
  | succ i =>
   have := ih (i := i) (by rw [List.length_cons] at hi; omega)
   unfold sumU at this ⊢
   simp only [List.set_cons_succ, List.map_cons, List.sum_cons, this]
   simp
   omega
theorem map_set {α β : Type} (f : α → β) (l : List α) (i : Nat) (y : α) : (l.set i y).map f = (l.map f).set i (f y) := by simp
theorem set_self' {α : Type} (l : List α) (d : α) (i : Nat) (hi : i < l.length) : l.set i (l.getD i d) = l := by
 refine List.ext_getElem? fun j => ?_
 by_cases e : i = j
 ·subst e; rw [List.getElem?_set_self hi, getD_someA l d hi]
 ·exact List.getElem?_set_ne e
theorem getD_mapI {α : Type} (f : α → Int) (l : List α) (d : α) {i : Nat} (hi : i < l.length) : (l.map f).getD i 0 = f (l.getD i d) := by
 rw [List.getD_eq_getElem?_getD, List.getElem?_map, getD_someA l d hi]; rfl
structure BgS (H : Hp) (gs : List Gr) (g' bC : Nat) (G : Hp) : Prop where
 ld : LdAt G H.length g' gs
 ok : ∀ g, g ∈ gs → GOk g
 c : gs.length ≠ 0 → G[bC]? = some (.cells ((cls gs).map I))
 g1 : gs ≠ [] → H.length < g'
 w1 : gs ≠ [] → H.length < bC
 ne : gs ≠ [] → g' ≠ bC
 lo : ∀ c, c < H.length → G[c]? = H[c]?
 ln : H.length + 1 ≤ G.length
theorem BgS.upd {H G G' : Hp} {gs gs' : List Gr} {g' bC : Nat} (h : BgS H gs g' bC G) (k : Fr G G' (LdB g' H.length gs)) (l : LdAt G' H.length g' gs') (ok : ∀ g, g ∈ gs' → GOk g) (e : cls gs' = cls gs) (el : gs'.length = gs.length) : BgS H gs' g' bC G' := by
 have hn : gs' ≠ [] → gs ≠ [] := fun h1 h2 => h1 (by rw [h2] at el; exact List.length_eq_zero_iff.1 el)
 refine ⟨l, ok, fun h0 => ?_, fun h0 => h.g1 (hn h0), fun h0 => h.w1 (hn h0), fun h0 => h.ne (hn h0), fun c hc => ?_, Nat.le_trans h.ln k.1⟩
 ·have h1 : gs.length ≠ 0 := by rw [← el]; exact h0
  have h2 : gs ≠ [] := fun e => h1 (by rw [e]; rfl)
  have hc := h.c h1
  rw [e, k.2 bC (get_lt hc) (fun e => by
   rcases e with e | ⟨e, -⟩
   ·have := h.w1 h2; omega
   ·exact h.ne h2 e.symm)]
  exact hc
 ·rw [k.2 c (by have := h.ln; omega) (fun e => by
   rcases e with e | ⟨e, h2⟩
   ·omega
   ·have := h.g1 h2; omega)]
  exact h.lo c hc
theorem c6 (l : List Dd) (H : Hp) (hl : l.length ≤ 9223372036854775807) : Ret Try.prog 6 [.arr (l.map ddV) .no] H (B true) H := by
 refine mk6 _ rfl (Nat.le_refl _) (.inl rfl) ?_
 simp only [vc6, real]
 repeat (first | (with_reducible first | refine Ju.go ?_ | (refine Hd.go ?_; intro K Q hK hQ; simp only [nod_arr, nd_no, e_lenA, List.length_map, nod_imm, Try.underlying3, e_gtr, e_cond, decide_eq_true_eq]; subst hK hQ) | refine Jr.go ?_) | refine sd ?_)
 by_cases h40 : (40 : Int) < l.length
 ·repeat (first | (with_reducible first | refine Ju.go ?_ | (refine Hd.go ?_; intro K Q hK hQ; simp only [h40, if_true]; subst hK hQ) | refine Jr.go ?_) | refine sd ?_)
  refine call_of (c15x _) ?_
  repeat (first | (with_reducible first | refine Ju.go ?_ | (refine Hd.go ?_; intro K Q hK hQ; simp only [Try.underlying3, Try.underlying4, Try.underlying5, Try.underlying9, Try.underlying22, Try.underlying23, Try.underlying30, Try.underlying43, Try.underlying44, Try.underlying57, Try.underlying100, Try.underlying124, Try.underlying184, j_one, j_side, j_tl, j_fl, nod_nod, nod_imm, nod_ints, nd_no, nd_own, nd_full, nd_fO, oF_ap, oF_succ, nod_sl, nod_ptr, nod_cptr, nod_fn, nod_junk, nodL_imm, nod_agg, nod_tup, nod2_imm, nod2_agg, cl_imm, cl_ints, cl_agg, e_add, e_sub, e_mul, e_quo, e_rem, e_eql, e_neq, e_lss, e_leq, e_gtr, e_geq, e_beq, e_bne, e_neg, e_not, e_pick, e_cond, e_gT, e_gF, e_len, e_lenA, e_lenS, e_ix, e_ixS, e_ldc, e_ldci, e_fa, rep_cl, rep_I, e_bx, okE_I, okE_B, okE_E8, okE_ints, stV_imm, stV_ints, j_and', j_or', List.getD_cons_zero, List.getD_cons_succ, List.map_cons, List.map_nil, decide_eq_true_eq, Int.toNat_natCast, Nat.mul_one, Nat.zero_add, true_and, and_true, List.length_map, Bool.not_eq_true', decide_eq_false_iff_not, nod_lists, e_lenL, e_ixL, okE_lists, bs1, bs1L, bs2L, e_app, e_appL, e_app0, e_app0L, e_slcLo, e_slcHi, e_slcLH, e_slcHH, e_slcLHH, e_callG, e_callY, e_calmG, e_slS0, e_slSLo, e_slSHi, e_slSLH, e_slSHH, e_slSLHH, e_max2, e_min2, e_max3, e_x20, e_x21, e_x30, e_x31, e_x32, nod2_ints, nod2_lists, rep_fl, bs0, e_nilE, if_true, if_false, cond_true, cond_false, decide_true, decide_false, eq_self, Bool.false_eq_true, false_implies, true_implies, ap_own, ap_full, e_slcLoL, e_slcHiL, e_slcLHL, hp_assoc, hp_cons, hp_nil, hp_len, hp_len_cons, hp_len_nil, lv_cons, lv_nil, vs_0, vs_s, spl_s, spl_0, spl_n, dr_s, dr_0, tk_s, tk_0, e_bxI, e_fac, e_facA, e_ldcA, e_ldcL, e_ldcF, okE_agg, ck_I, ck_B, ck_ints, ck_lists, ck_arr, ck_ptr, ck_cptr, ck_fn, all_c, all_n, stV_agg, stV_lists, stV_arr, stV_ptr, stV_cptr, stV_fn, nodL_ints, nodL_lists, nodL_ptr, nodL_cptr, nodL_fn, nodL_arr0, cl_arr, cl_ptr, cl_cptr, cl_fn, cl_lists, okE_arr, okE_fn, okE_ptr, okE_cptr, e_bd0, e_bd1, e_wr, Nat.reduceAdd, Nat.reduceLeDiff, Nat.reduceEqDiff, Nat.add_zero, Bool.and_self, Bool.true_and, Bool.and_true, e_lc0, e_lA0, e_lM0, e_sc0, e_rc0, e_rA0, e_lI0, e_sI0, e_cI0, e_lc1, e_lA1, e_lM1, e_sc1, e_rc1, e_rA1, e_lI1, e_sI1, e_cI1, e_lc2, e_lA2, e_lM2, e_sc2, e_rc2, e_rA2, e_lI2, e_sI2, e_cI2, e_lc3, e_lA3, e_lM3, e_sc3, e_rc3, e_rA3, e_lI3, e_sI3, e_cI3, e_lc4, e_lA4, e_lM4, e_sc4, e_rc4, e_rA4, e_lI4, e_sI4, e_cI4, e_lc5, e_lA5, e_lM5, e_sc5, e_rc5, e_rA5, e_lI5, e_sI5, e_cI5, own0_arr, own0_ints, own0_lists, own0_imm, own0_ptr, own0_cptr, own0_fn, own0_agg, e_appB, e_appB0, ck_sl, own0_sl, stV_sl, nodL_sl, cl_sl, okE_sl, e_mkM, e_mkI, e_mkIm, e_callB, nod_bfn, nod_ifc, nod_map, nodL_ifc, nodL_bfn, nodL_map, cl_ifc, cl_bfn, ck_ifc, ck_bfn, ck_map, stV_ifc, okE_ifc, okE_bfn, nod_arr, nodL_arr, e_addU, e_mulU, e_shrK, e_shlK, e_andK, e_cv64, e_cv32, e_callEG, e_callEY, e_callEB, e_zr, e_nilSl, e_ncP, e_ncC, e_ncI, e_npnP, e_npeP, e_npnC, e_npeC, e_npnN, e_npeN, e_ixAP, e_ldcP, e_ldcS, e_ldcV, e_ldcT, okE_nilP, ck_nilP, okE_nilI, ck_nilI, okE_str, ck_str, e_tlen, e_tix, e_teq, e_tne, e_tadd, e_tb, e_u8lss, e_u8gtr, noV_full, nod_arr, List.length_map, reduceIte, Int.reduceEq, Int.reduceNeg, ne_eq, not_true_eq_false, not_false_eq_true, Bool.not_true, Bool.not_false, Bool.true_or, Bool.or_true, Bool.false_or, Bool.or_false, Bool.and_true, Bool.and_false, Bool.false_and, Bool.not_not, Bool.or_self, List.length_nil, Int.ofNat_zero, Int.cast_ofNat_Int, Int.natCast_zero, beq_self_eq_true, Bool.true_eq_false]; subst hK hQ) | refine Jr.go ?_) | refine sd ?_)
  exact end1 (fzI _)
 ·repeat (first | (with_reducible first | refine Ju.go ?_ | (refine Hd.go ?_; intro K Q hK hQ; simp only [h40, if_false]; subst hK hQ) | refine Jr.go ?_) | refine sd ?_)
  refine callE_of (c26 _) ?_
  rintro v H1 ⟨rfl, rfl⟩
  repeat (first | (with_reducible first | refine Ju.go ?_ | (refine Hd.go ?_; intro K Q hK hQ; simp only [nod_ptr, Try.underlying43, e_npeP, nod_imm, e_cond, Bool.false_eq_true, if_false]; subst hK hQ) | refine Jr.go ?_) | refine sd ?_)
  have I0 : BgS H [] 0 0 (H ++ [Blk.cells [B true, .arr [] .full]]) := ⟨⟨tail0 _ _, fun e => absurd rfl e, fun e => absurd rfl e⟩, fun g hg => (by cases hg), fun e => absurd rfl e, fun e => absurd rfl e, fun e => absurd rfl e, fun e => absurd rfl e, fun c hc => List.getElem?_append_left hc, by simp⟩
  refine loop_of (fun q : Nat × List Gr × Nat × Nat × Fl × Hp => q.1 ≤ l.length ∧ q.2.1.length ≤ q.1 ∧ q.2.2.2.2.1.ap = true ∧ BgS H q.2.1 q.2.2.1 q.2.2.2.1 q.2.2.2.2.2) (fun q => [.arr (l.map ddV) .no, .ptr H.length 0, ints (bus q.2.1) q.2.2.2.2.1, blV 1 q.2.2.2.1 q.2.1.length, I (sumU q.2.1), I q.1]) (·.2.2.2.2.2) (fun q => l.length - q.1) (0, [], 0, 0, .full, _) ⟨Nat.zero_le _, Nat.zero_le _, rfl, I0⟩ rfl rfl ?_
  clear I0
  rintro ⟨i, gs, g', bC, f, G⟩ ⟨hi, hgi, hf, hB⟩
  simp only at hi hgi hf hB ⊢
  repeat (first | (with_reducible first | refine Ju.go ?_ | (refine Hd.go ?_; intro K Q hK hQ; simp only [List.getD_cons_zero, nod_arr, nd_no, e_lenA, List.length_map, List.getD_cons_succ, nod_imm, Try.underlying3, e_lss, e_cond, decide_eq_true_eq]; subst hK hQ) | refine Jr.go ?_) | refine sd ?_)
  by_cases hlt : i < l.length
  ·have d : (i : Int) < l.length := by omega
   have hsr := sumU_rng hB.ok
   repeat (first | (with_reducible first | refine Ju.go ?_ | (refine Hd.go ?_; intro K Q hK hQ; simp only [d, if_true, List.getD_cons_zero, nod_arr, nd_no, List.getD_cons_succ, nod_imm, ix_dd, Int.toNat_natCast, true_and, nod_cptr, e_ldcA, lv_cons, List.length_nil, Nat.zero_add, Nat.reduceAdd, nod_agg, List.map_cons, nodL_imm, List.map_nil, e_bxI, okE_agg, all_c, ck_I, all_n, Bool.and_self, and_true, e_fac, Nat.reduceLeDiff, e_ldc, Try.underlying3, e_eql, e_cond, decide_eq_true_eq]; subst hK hQ) | refine Jr.go ?_) | refine sd ?_)
   generalize hd : l.getD i default = dd
   generalize hR : Rn _ = R
   have key : ∀ gs2 g2 b2 f2 G2, gs2.length ≤ i + 1 → f2.ap = true → BgS H gs2 g2 b2 G2 → R [.arr (l.map ddV) .no, .ptr H.length 0, ints (bus gs2) f2, blV 1 b2 gs2.length, I (sumU gs2), I i] G2 := by
    intro gs2 g2 b2 f2 G2 hl2 hf2 hB2
    subst hR
    have hsr2 := sumU_rng hB2.ok
    have hbl : (bus gs2).length = gs2.length := by unfold bus; rw [List.length_map]
    repeat (first | (with_reducible first | refine Ju.go ?_ | (refine Hd.go ?_; intro K Q hK hQ; simp only [Try.underlying3, Try.underlying4, Try.underlying5, Try.underlying9, Try.underlying22, Try.underlying23, Try.underlying30, Try.underlying43, Try.underlying44, Try.underlying57, Try.underlying100, Try.underlying124, Try.underlying184, j_one, j_side, j_tl, j_fl, nod_nod, nod_imm, nod_ints, nd_no, nd_own, nd_full, nd_fO, oF_ap, oF_succ, nod_sl, nod_ptr, nod_cptr, nod_fn, nod_junk, nodL_imm, nod_agg, nod_tup, nod2_imm, nod2_agg, cl_imm, cl_ints, cl_agg, e_add, e_sub, e_mul, e_quo, e_rem, e_eql, e_neq, e_lss, e_leq, e_gtr, e_geq, e_beq, e_bne, e_neg, e_not, e_pick, e_cond, e_gT, e_gF, e_len, e_lenA, e_lenS, e_ix, e_ixS, e_ldc, e_ldci, e_fa, rep_cl, rep_I, e_bx, okE_I, okE_B, okE_E8, okE_ints, stV_imm, stV_ints, j_and', j_or', List.getD_cons_zero, List.getD_cons_succ, List.map_cons, List.map_nil, decide_eq_true_eq, Int.toNat_natCast, Nat.mul_one, Nat.zero_add, true_and, and_true, List.length_map, Bool.not_eq_true', decide_eq_false_iff_not, nod_lists, e_lenL, e_ixL, okE_lists, bs1, bs1L, bs2L, e_app, e_appL, e_app0, e_app0L, e_slcLo, e_slcHi, e_slcLH, e_slcHH, e_slcLHH, e_callG, e_callY, e_calmG, e_slS0, e_slSLo, e_slSHi, e_slSLH, e_slSHH, e_slSLHH, e_max2, e_min2, e_max3, e_x20, e_x21, e_x30, e_x31, e_x32, nod2_ints, nod2_lists, rep_fl, bs0, e_nilE, if_true, if_false, cond_true, cond_false, decide_true, decide_false, eq_self, Bool.false_eq_true, false_implies, true_implies, ap_own, ap_full, e_slcLoL, e_slcHiL, e_slcLHL, hp_assoc, hp_cons, hp_nil, hp_len, hp_len_cons, hp_len_nil, lv_cons, lv_nil, vs_0, vs_s, spl_s, spl_0, spl_n, dr_s, dr_0, tk_s, tk_0, e_bxI, e_fac, e_facA, e_ldcA, e_ldcL, e_ldcF, okE_agg, ck_I, ck_B, ck_ints, ck_lists, ck_arr, ck_ptr, ck_cptr, ck_fn, all_c, all_n, stV_agg, stV_lists, stV_arr, stV_ptr, stV_cptr, stV_fn, nodL_ints, nodL_lists, nodL_ptr, nodL_cptr, nodL_fn, nodL_arr0, cl_arr, cl_ptr, cl_cptr, cl_fn, cl_lists, okE_arr, okE_fn, okE_ptr, okE_cptr, e_bd0, e_bd1, e_wr, Nat.reduceAdd, Nat.reduceLeDiff, Nat.reduceEqDiff, Nat.add_zero, Bool.and_self, Bool.true_and, Bool.and_true, e_lc0, e_lA0, e_lM0, e_sc0, e_rc0, e_rA0, e_lI0, e_sI0, e_cI0, e_lc1, e_lA1, e_lM1, e_sc1, e_rc1, e_rA1, e_lI1, e_sI1, e_cI1, e_lc2, e_lA2, e_lM2, e_sc2, e_rc2, e_rA2, e_lI2, e_sI2, e_cI2, e_lc3, e_lA3, e_lM3, e_sc3, e_rc3, e_rA3, e_lI3, e_sI3, e_cI3, e_lc4, e_lA4, e_lM4, e_sc4, e_rc4, e_rA4, e_lI4, e_sI4, e_cI4, e_lc5, e_lA5, e_lM5, e_sc5, e_rc5, e_rA5, e_lI5, e_sI5, e_cI5, own0_arr, own0_ints, own0_lists, own0_imm, own0_ptr, own0_cptr, own0_fn, own0_agg, e_appB, e_appB0, ck_sl, own0_sl, stV_sl, nodL_sl, cl_sl, okE_sl, e_mkM, e_mkI, e_mkIm, e_callB, nod_bfn, nod_ifc, nod_map, nodL_ifc, nodL_bfn, nodL_map, cl_ifc, cl_bfn, ck_ifc, ck_bfn, ck_map, stV_ifc, okE_ifc, okE_bfn, nod_arr, nodL_arr, e_addU, e_mulU, e_shrK, e_shlK, e_andK, e_cv64, e_cv32, e_callEG, e_callEY, e_callEB, e_zr, e_nilSl, e_ncP, e_ncC, e_ncI, e_npnP, e_npeP, e_npnC, e_npeC, e_npnN, e_npeN, e_ixAP, e_ldcP, e_ldcS, e_ldcV, e_ldcT, okE_nilP, ck_nilP, okE_nilI, ck_nilI, okE_str, ck_str, e_tlen, e_tix, e_teq, e_tne, e_tadd, e_tb, e_u8lss, e_u8gtr, noV_full, nod_arr, List.length_map, reduceIte, Int.reduceEq, Int.reduceNeg, ne_eq, not_true_eq_false, not_false_eq_true, Bool.not_true, Bool.not_false, Bool.true_or, Bool.or_true, Bool.false_or, Bool.or_false, Bool.and_true, Bool.and_false, Bool.false_and, Bool.not_not, Bool.or_self, List.length_nil, Int.ofNat_zero, Int.cast_ofNat_Int, Int.natCast_zero, beq_self_eq_true, Bool.true_eq_false]; subst hK hQ) | refine Jr.go ?_) | refine sd ?_)
    refine loop_of (fun q : Nat × Hp => q.1 ≤ gs2.length ∧ q.2 = G2) (fun q => [.arr (l.map ddV) .no, .ptr H.length 0, ints (bus gs2) f2, blV 1 b2 gs2.length, I (sumU gs2), I i, I (sumU (gs2.take q.1)), I q.1]) (·.2) (fun q => gs2.length - q.1) (0, G2) ⟨Nat.zero_le _, rfl⟩ rfl rfl ?_
    rintro ⟨k, G3⟩ ⟨hk, rfl⟩
    simp only at hk ⊢
    repeat (first | (with_reducible first | refine Ju.go ?_ | (refine Hd.go ?_; intro K Q hK hQ; simp only [List.getD_cons_succ, List.getD_cons_zero, nod_ints, e_len, hbl, nod_imm, Try.underlying3, e_lss, e_cond, decide_eq_true_eq]; subst hK hQ) | refine Jr.go ?_) | refine sd ?_)
    by_cases hkl : k < gs2.length
    ·have dk : (k : Int) < gs2.length := by omega
     have hn0 : gs2.length ≠ 0 := by omega
     have hkb : k < (bus gs2).length := by omega
     have hgk := hB2.ok _ (getD_memA gs2 default hkl)
     have q0 := hgk.u0
     have q1 := hgk.u1
     have q2 := hgk.b1
     have d1 : ¬ (gs2.getD k default).ud < 0 := by omega
     have hbu : (bus gs2).getD k 0 = (gs2.getD k default).g.bu := getD_mapI _ gs2 default hkl
     have d2 : ¬ (gs2.getD k default).g.bu < (gs2.getD k default).ud := by omega
     have hcl : (cls gs2).getD k 0 = if (gs2.getD k default).wd then (gs2.getD k default).ud else -1 := getD_mapI _ gs2 default hkl
     have hC := hB2.c hn0
     have hcll : k < (cls gs2).length := by unfold cls; rw [List.length_map]; exact hkl
     have e29 := c29 H.length g2 gs2 (k : Int) _ hB2.ld (by omega)
     rw [if_pos (show inB (k : Int) 0 ((gs2.length : Int) - 1) = true from inB_iff.2 ⟨by omega, by omega⟩), Int.toNat_natCast] at e29
     have hst := sumU_rng (l := gs2.take k) fun g hg => hB2.ok g (List.mem_of_mem_take hg)
     rw [List.length_take] at hst
     have hs1 : sumU (gs2.take (k + 1)) = sumU (gs2.take k) + (gs2.getD k default).ud := by rw [take_snocA gs2 default hkl, sumU_snoc]
     have hrs : R64 (sumU (gs2.take k) + (gs2.getD k default).ud) := by unfold R64; omega
     repeat (first | (with_reducible first | refine Ju.go ?_ | (refine Hd.go ?_; intro K Q hK hQ; simp only [dk, if_true, List.getD_cons_succ, List.getD_cons_zero, nod_ptr, nod_imm]; subst hK hQ) | refine Jr.go ?_) | refine sd ?_)
     refine call_of e29 ?_
     have hbn := blV_ne 1 b2 hn0
     cases hw : (gs2.getD k default).wd
     ·rw [hw] at hcl
      have hcl2 : (cls gs2).getD k 0 = -1 := hcl
      have dm : decide ((0 : Int) ≤ -1) = false := rfl
      have dm2 : ¬ (0 : Int) ≤ -1 := by decide
      repeat (first | (with_reducible first | refine Ju.go ?_ | (refine Hd.go ?_; intro K Q hK hQ; simp only [nod_tup, List.map_cons, nod2_imm, List.map_nil, e_x20, e_x21, hbn, List.getD_cons_zero, List.getD_cons_succ, nod_imm, Try.underlying30, e_neq, decide_true, Bool.not_true, Try.underlying3, e_lss, d1, decide_false, e_gF, cond_false, j_one, nod_ints, e_ix, Int.toNat_natCast, hbu, nod_cptr, e_ldc, e_gtr, d2, j_side, nod_sl, nod_nod, e_ixS, dk, Nat.mul_one, Nat.zero_add, nod_ptr, true_and, ldI_at hC, hcll, hcl2, Int.reduceNeg, e_geq, dm2, e_gT, e_cond, Bool.false_eq_true, if_false, e_add]; subst hK hQ) | refine Jr.go ?_) | refine sd ?_)
      exact ⟨(k + 1, _), ⟨by show k + 1 ≤ _; omega, rfl⟩, by show [_, _, _, _, _, _, I (sumU (gs2.take (k + 1))), I ((k + 1 : Nat) : Int)] = _; rw [hs1, ← hbn]; rfl, rfl, by show gs2.length - (k + 1) < gs2.length - k; omega⟩
     ·rw [hw] at hcl
      have hcl2 : (cls gs2).getD k 0 = (gs2.getD k default).ud := hcl
      repeat (first | (with_reducible first | refine Ju.go ?_ | (refine Hd.go ?_; intro K Q hK hQ; simp only [nod_tup, List.map_cons, nod2_imm, List.map_nil, e_x20, e_x21, hbn, List.getD_cons_zero, List.getD_cons_succ, nod_imm, Try.underlying30, e_neq, decide_true, Bool.not_true, Try.underlying3, e_lss, d1, decide_false, e_gF, cond_false, j_one, nod_ints, e_ix, Int.toNat_natCast, hbu, nod_cptr, e_ldc, e_gtr, d2, j_side, nod_sl, nod_nod, e_ixS, dk, Nat.mul_one, Nat.zero_add, nod_ptr, true_and, ldI_at hC, hcll, hcl2, e_geq, q0, e_gT, cond_true, e_cond, Bool.false_eq_true, if_false, e_add]; subst hK hQ) | refine Jr.go ?_) | refine sd ?_)
      exact ⟨(k + 1, _), ⟨by show k + 1 ≤ _; omega, rfl⟩, by show [_, _, _, _, _, _, I (sumU (gs2.take (k + 1))), I ((k + 1 : Nat) : Int)] = _; rw [hs1, ← hbn]; rfl, rfl, by show gs2.length - (k + 1) < gs2.length - k; omega⟩
    ·obtain rfl : k = gs2.length := by omega
     have dk : ¬ ((gs2.length : Nat) : Int) < gs2.length := by omega
     rw [List.take_length]
     repeat (first | (with_reducible first | refine Ju.go ?_ | (refine Hd.go ?_; intro K Q hK hQ; simp only [dk, if_false, List.getD_cons_succ, List.getD_cons_zero, nod_imm, Try.underlying3, e_neq, decide_true, Bool.not_true, e_cond, Bool.false_eq_true, e_add]; subst hK hQ) | refine Jr.go ?_) | refine sd ?_)
     exact ⟨(i + 1, gs2, g2, b2, f2, _), ⟨by show i + 1 ≤ _; omega, hl2, hf2, hB2⟩, rfl, rfl, by show l.length - (i + 1) < _; omega⟩
   clear hR
   have hgl : gs.length ≤ 40 := by omega
   by_cases k1 : dd.k = 1
   ·repeat (first | (with_reducible first | refine Ju.go ?_ | (refine Hd.go ?_; intro K Q hK hQ; simp only [k1, if_true, List.getD_cons_succ, List.getD_cons_zero, nod_cptr, e_facA, Nat.reduceAdd, lv_cons, List.length_nil, Nat.zero_add, Nat.reduceLeDiff, dr_s, dr_0, tk_s, tk_0, true_and, e_ldcA, nod_ptr, nod_agg, List.map_cons, nodL_imm, List.map_nil]; subst hK hQ) | refine Jr.go ?_) | refine sd ?_)
    refine callE_of (c27 H.length g' gs dd.g G hB.ld (by omega)) ?_
    rintro v G1 hq
    by_cases hok : okGn dd.g = true
    ·rw [if_pos hok, if_pos (by omega)] at hq
     obtain ⟨rfl, ⟨g2, ld2, hg2⟩, kf⟩ := hq
     have hbl0 : (bus gs).length = gs.length := by unfold bus; rw [List.length_map]
     have hls : [dd.g.bu].length = 1 := rfl
     repeat (first | (with_reducible first | refine Ju.go ?_ | (refine Hd.go ?_; intro K Q hK hQ; simp only [nod_tup, List.map_cons, nod2_imm, List.map_nil, e_x20, e_x21, nod_imm, Try.underlying30, e_eql, decide_true, List.getD_cons_zero, List.getD_cons_succ, e_cond, if_true, nod_cptr, e_facA, Nat.reduceAdd, lv_cons, List.length_nil, Nat.zero_add, Nat.reduceLeDiff, dr_s, dr_0, tk_s, tk_0, true_and, e_fac, e_ldc, bs1, nod_ints, nd_full, e_app, hbl0, hls, Int.reduceNeg]; subst hK hQ) | refine Jr.go ?_) | refine sd ?_)
     have hcl0 : (cls gs).length = gs.length := by unfold cls; rw [List.length_map]
     have hB1 := kf.1
     have hcG : gs.length ≠ 0 → G1[bC]? = some (.cells ((cls gs).map I)) := fun h0 => by
      have h2 : gs ≠ [] := fun e => h0 (by rw [e]; rfl)
      rw [kf.2 bC (get_lt (hB.c h0)) (fun e => by
       rcases e with e | ⟨e, -⟩
       ·have := hB.w1 h2; omega
       ·exact hB.ne h2 e.symm)]
      exact hB.c h0
     have hne' : gs.length ≠ 0 → gs ≠ [] := fun h0 e => h0 (by rw [e]; rfl)
     refine app_bl (b := bC) (n := gs.length) (cs := (cls gs).map I) (ys := [-1].map I) (fun e => by rw [List.length_eq_zero_iff.1 e]; rfl) hcG (by rw [List.length_map, hcl0]; omega) (fun c hc => by obtain ⟨y, -, rfl⟩ := List.mem_map.1 hc; rfl) (fun e he => by obtain ⟨y, -, rfl⟩ := List.mem_map.1 he; exact ⟨rfl, fun c hc => by simp only [V.cl, List.mem_singleton] at hc; subst hc; rfl⟩) (by show (gs.length + 1) * 8 ≤ _; omega) (fun _ e => by cases e) (fun _ => ?_)
     have e1 : (cls gs).map I ++ ([-1].map I).flatMap V.cl = (cls (gs ++ [⟨dd.g, false, 0⟩])).map I := by unfold cls; simp [V.cl]
     have e2 : bus gs ++ [dd.g.bu] = bus (gs ++ [⟨dd.g, false, 0⟩]) := by unfold bus; simp
     have e3 : gs.length + ([-1].map I).length = (gs ++ [(⟨dd.g, false, 0⟩ : Gr)]).length := by simp
     have e4 : sumU gs = sumU (gs ++ [⟨dd.g, false, 0⟩]) := by rw [sumU_snoc]; show _ = _ + (0 : Int); omega
     rw [e1, e2, e3]
     show R [.arr (l.map ddV) .no, .ptr H.length 0, ints (bus (gs ++ [⟨dd.g, false, 0⟩])) .own, blV 1 G1.length (gs ++ [(⟨dd.g, false, 0⟩ : Gr)]).length, I (sumU gs), I i] _
     rw [e4]
     have hln := hB.ln
     have kk : Fr G1 (killB G1 bC gs.length ++ [.cells ((cls (gs ++ [⟨dd.g, false, 0⟩])).map I)]) (fun c => c = bC ∧ gs.length ≠ 0) := by
      refine ⟨by rw [List.length_append, killB_len]; omega, fun c hc hn => ?_⟩
      rw [List.getElem?_append_left (by rw [killB_len]; exact hc), killB_ne G1 bC _ (fun h0 e => hn ⟨e.symm, h0⟩)]
     have hbCl : gs.length ≠ 0 → bC < G.length := fun h0 => get_lt (hB.c h0)
     have hok' := hok
     unfold okGn at hok'
     simp only [Bool.and_eq_true, decide_eq_true_eq, inB_iff] at hok'
     refine key _ g2 G1.length .own _ (by rw [List.length_append, List.length_singleton]; omega) rfl ⟨ld2.fr kk fun c hc e => ?_, fun g hg => ?_, fun _ => ?_, fun _ => by omega, fun _ => by omega, fun _ e => ?_, fun c hc => ?_, by have := kk.1; omega⟩
     ·have := hB.w1 (hne' e.2)
      have := hbCl e.2
      rcases hc with hc | ⟨hc, -⟩
      ·omega
      ·omega
     ·rcases List.mem_append.1 hg with hg | hg
      ·exact hB.ok g hg
      ·simp only [List.mem_singleton] at hg
       subst hg
       exact ⟨hok'.2.1, hok'.2.2, Int.le_refl _, hok'.2.1⟩
     ·rw [← killB_len G1 bC gs.length]; exact tail0 _ _
     ·have := ld2.len.2 (by simp); omega
     ·rw [kk.2 c (by omega) (fun e => by have := hB.w1 (hne' e.2); omega), kf.2 c (by omega) (fun e => by
       rcases e with e | ⟨e, h2⟩
       ·omega
       ·have := hB.g1 h2; omega)]
      exact hB.lo c hc
    ·rw [if_neg hok] at hq
     obtain ⟨rfl, rfl⟩ := hq
     have d2 : ¬ (2 : Int) = 0 := by decide
     repeat (first | (with_reducible first | refine Ju.go ?_ | (refine Hd.go ?_; intro K Q hK hQ; simp only [nod_tup, List.map_cons, nod2_imm, List.map_nil, e_x20, e_x21, nod_imm, Try.underlying30, e_eql, d2, decide_false, List.getD_cons_zero, List.getD_cons_succ, e_cond, Bool.false_eq_true, if_false]; subst hK hQ) | refine Jr.go ?_) | refine sd ?_)
     exact key gs g' bC f _ (by omega) hf hB
   ·by_cases k2 : dd.k = 2
    ·repeat (first | (with_reducible first | refine Ju.go ?_ | (refine Hd.go ?_; intro K Q hK hQ; simp only [k2, Int.reduceEq, if_false, List.getD_cons_succ, List.getD_cons_zero, nod_imm, Try.underlying3, e_eql, decide_true, e_cond, if_true, nod_cptr, e_fac, Nat.reduceAdd, lv_cons, List.length_nil, Nat.zero_add, Nat.reduceLeDiff, true_and, e_ldc, nod_ptr]; subst hK hQ) | refine Jr.go ?_) | refine sd ?_)
     refine callE_of (c28 H.length g' gs dd.n G hB.ld (by omega)) ?_
     rintro v G1 hq
     by_cases hin : inB dd.n 0 ((gs.length : Int) - 1) = true
     ·rw [if_pos hin] at hq
      have hin' := inB_iff.1 hin
      obtain ⟨k, hk⟩ := Int.eq_ofNat_of_zero_le hin'.1
      rw [hk, Int.toNat_natCast] at hq
      have hkl : k < gs.length := by omega
      by_cases hw : (gs.getD k default).wd = true
      ·rw [if_pos hw] at hq
       obtain ⟨rfl, rfl⟩ := hq
       have d7 : ¬ (7 : Int) = 0 := by decide
       repeat (first | (with_reducible first | refine Ju.go ?_ | (refine Hd.go ?_; intro K Q hK hQ; simp only [nod_imm, Try.underlying30, e_eql, d7, decide_false, e_cond, Bool.false_eq_true, if_false]; subst hK hQ) | refine Jr.go ?_) | refine sd ?_)
       exact key gs g' bC f _ (by omega) hf hB
      ·rw [if_neg hw] at hq
       obtain ⟨rfl, ld1, kf1⟩ := hq
       have hn0 : gs.length ≠ 0 := by omega
       have hne : gs ≠ [] := fun e => hn0 (by rw [e]; rfl)
       have hgk := hB.ok _ (getD_memA gs default hkl)
       have hl2 : (gs.set k { gs.getD k default with wd := true }).length = gs.length := List.length_set
       have hgg : (gs.set k { gs.getD k default with wd := true }).getD k default = { gs.getD k default with wd := true } := by rw [List.getD_eq_getElem?_getD, List.getElem?_set_self hkl]; rfl
       have hcG : G1[bC]? = some (.cells ((cls gs).map I)) := by
        rw [kf1.2 bC (get_lt (hB.c hn0)) (fun e => by
         rcases e with e | ⟨e, -⟩
         ·have := hB.w1 hne; omega
         ·exact hB.ne hne e.symm)]
        exact hB.c hn0
       have hcl0 : (cls gs).length = gs.length := by unfold cls; rw [List.length_map]
       have hbn := blV_ne 1 bC hn0
       repeat (first | (with_reducible first | refine Ju.go ?_ | (refine Hd.go ?_; intro K Q hK hQ; simp only [nod_imm, Try.underlying30, e_eql, decide_true, e_cond, if_true, hk, List.getD_cons_succ, List.getD_cons_zero, nod_cptr, e_fac, Nat.reduceAdd, lv_cons, List.length_nil, Nat.zero_add, Nat.reduceLeDiff, true_and, e_ldc, nod_ptr]; subst hK hQ) | refine Jr.go ?_) | refine sd ?_)
       refine ⟨_, fun L => c29 H.length g' _ (k : Int) (G1 ++ L) (ld1.fr (S := fun _ => False) (Fr.app _ _ _) fun _ _ e => e) (by rw [hl2]; omega), ?_⟩
       rw [if_pos (show inB (k : Int) 0 (((gs.set k { gs.getD k default with wd := true }).length : Int) - 1) = true from inB_iff.2 ⟨by omega, by rw [hl2]; omega⟩), Int.toNat_natCast, hgg]
       have hki : (k : Int) < gs.length := by omega
       have stx : ∀ KH, aSt 1 (.ptr bC k) (I (gs.getD k default).ud) G1 KH = KH .junk (G1.set bC (.cells ((cls (gs.set k { gs.getD k default with wd := true })).map I))) := fun KH => by
        rw [st_at hcG]
        have e0 : spl ((cls gs).map I) k (stV (I (gs.getD k default).ud)).cl = (cls (gs.set k { gs.getD k default with wd := true })).map I := by
         have e1 : cls (gs.set k { gs.getD k default with wd := true }) = (cls gs).set k (gs.getD k default).ud := by unfold cls; rw [map_set]; rfl
         rw [e1, set_eq_app _ (by rw [hcl0]; exact hkl), List.map_append, List.map_cons, List.map_take, List.map_drop]
         simp [spl, stV, V.cl]
        rw [e0]
        exact propext ⟨fun h => h.2.2, fun h => ⟨by rw [List.length_map, hcl0]; omega, okE_imm _ rfl, h⟩⟩
       repeat (first | (with_reducible first | refine Ju.go ?_ | (refine Hd.go ?_; intro K Q hK hQ; simp only [nod_tup, List.map_cons, nod2_imm, List.map_nil, e_x20, e_x21, hbn, hk, List.getD_cons_succ, List.getD_cons_zero, nod_sl, nod_imm, e_ixS, hki, Int.toNat_natCast, Nat.mul_one, Nat.zero_add, true_and, nod_ptr, stx]; subst hK hQ) | refine Jr.go ?_) | refine sd ?_)
       have ks : ∀ X, Fr G1 (G1.set bC X) (fun c => c = bC) := fun X => Fr.set _ _ _ rfl
       have eb : bus gs = bus (gs.set k { gs.getD k default with wd := true }) := by
        unfold bus
        rw [map_set]
        have : gs.map (fun g : Gr => g.g.bu) = (gs.map fun g => g.g.bu).set k (gs.getD k default).g.bu := by
         rw [← getD_mapI (fun g : Gr => g.g.bu) gs default hkl, set_self' _ 0 k (by rw [List.length_map]; exact hkl)]
        exact this
       have es : sumU gs = sumU (gs.set k { gs.getD k default with wd := true }) := by
        rw [sumU_set hkl]
        show _ = _ - _ + (gs.getD k default).ud
        omega
       show R [.arr (l.map ddV) .no, .ptr H.length 0, ints (bus gs) f, blV 1 bC gs.length, I (sumU gs), I i] _
       rw [eb, es, ← hl2]
       refine key _ g' bC f _ (by rw [hl2]; omega) hf ⟨ld1.fr (ks _) fun c hc e => ?_, fun g hg => ?_, fun _ => List.getElem?_set_self (get_lt hcG), fun _ => hB.g1 hne, fun _ => hB.w1 hne, fun _ => hB.ne hne, fun c hc => ?_, ?_⟩
       ·rcases hc with hc | ⟨hc, -⟩
        ·have := hB.w1 hne; omega
        ·exact hB.ne hne (by omega)
       ·rcases List.mem_or_eq_of_mem_set hg with hg | rfl
        ·exact hB.ok g hg
        ·exact ⟨hgk.b0, hgk.b1, hgk.u0, hgk.u1⟩
       ·rw [(ks _).2 c (by have := kf1.1; have := hB.ln; omega) (by have := hB.w1 hne; omega), kf1.2 c (by have := hB.ln; omega) (fun e => by
         rcases e with e | ⟨e, h2⟩
         ·omega
         ·have := hB.g1 h2; omega)]
        exact hB.lo c hc
       ·rw [List.length_set]; have := kf1.1; have := hB.ln; omega
     ·rw [if_neg hin] at hq
      obtain ⟨rfl, rfl⟩ := hq
      have d5 : ¬ (5 : Int) = 0 := by decide
      repeat (first | (with_reducible first | refine Ju.go ?_ | (refine Hd.go ?_; intro K Q hK hQ; simp only [nod_imm, Try.underlying30, e_eql, d5, decide_false, e_cond, Bool.false_eq_true, if_false]; subst hK hQ) | refine Jr.go ?_) | refine sd ?_)
      exact key gs g' bC f _ (by omega) hf hB
    ·by_cases k4 : dd.k = 4
     ·repeat (first | (with_reducible first | refine Ju.go ?_ | (refine Hd.go ?_; intro K Q hK hQ; simp only [k4, Int.reduceEq, if_false, List.getD_cons_succ, List.getD_cons_zero, nod_imm, Try.underlying3, e_eql, decide_false, e_cond, Bool.false_eq_true, decide_true, if_true, nod_cptr, e_fac, Nat.reduceAdd, lv_cons, List.length_nil, Nat.zero_add, Nat.reduceLeDiff, true_and, e_ldc, nod_ptr]; subst hK hQ) | refine Jr.go ?_) | refine sd ?_)
      refine callE_of (c30 H.length g' gs dd.vo dd.us dd.n dd.t G hB.ld hB.ok (by omega)) ?_
      rintro v G1 hq
      by_cases hak : okAk dd.vo dd.us dd.n dd.t = true
      ·rw [if_pos hak] at hq
       obtain ⟨rfl, ld1, kf1, -⟩ := hq
       have hnn : 0 ≤ dd.n ∧ dd.n ≤ 1099511627776 := by
        unfold okAk at hak
        simp only [Bool.and_eq_true] at hak
        exact inB_iff.1 hak.1.2
       have htk := tkG_ok (vo := dd.vo) (us := dd.us) (n := dd.n) (t := dd.t) hB.ok hnn.1
       have hlk := tkG_len gs dd.vo dd.us dd.n dd.t
       rcases fnd_rng gs dd.vo dd.us dd.n dd.t with e | ⟨k, e, hkl, hp⟩
       ·have hlt0 : fnd gs dd.vo dd.us dd.n dd.t < 0 := by rw [e]; decide
        have et : tkG gs dd.vo dd.us dd.n dd.t = gs := if_pos hlt0
        rw [et] at ld1
        rw [if_pos hlt0, if_pos hlt0]
        have d8 : ¬ (8 : Int) = 0 := by decide
        repeat (first | (with_reducible first | refine Ju.go ?_ | (refine Hd.go ?_; intro K Q hK hQ; simp only [nod_tup, List.map_cons, nod2_imm, List.map_nil, e_x20, e_x21, List.getD_cons_zero, List.getD_cons_succ, nod_imm, Try.underlying30, e_eql, d8, decide_false, e_cond, Bool.false_eq_true, if_false]; subst hK hQ) | refine Jr.go ?_) | refine sd ?_)
        exact key gs g' bC f _ (by omega) hf (hB.upd kf1 ld1 hB.ok rfl rfl)
       ·have hlt0 : ¬ fnd gs dd.vo dd.us dd.n dd.t < 0 := by rw [e]; omega
        have et : tkG gs dd.vo dd.us dd.n dd.t = gs.set k { gs.getD k default with ud := (gs.getD k default).ud + dd.n } := by
         unfold tkG; rw [if_neg hlt0, e, Int.toNat_natCast]
        rw [if_neg hlt0, if_neg hlt0]
        have hwd : (gs.getD k default).wd = false := by
         unfold prm at hp
         simp only [Bool.and_eq_true, Bool.not_eq_true', Bool.or_eq_false_iff] at hp
         exact hp.1.1.1
        have ec : cls (tkG gs dd.vo dd.us dd.n dd.t) = cls gs := by
         rw [et]
         unfold cls
         rw [map_set]
         have h1 : (if (gs.getD k default).wd = true then (gs.getD k default).ud + dd.n else -1) = (gs.map fun g : Gr => if g.wd = true then g.ud else -1).getD k 0 := by
          rw [getD_mapI _ gs default hkl, hwd]; rfl
         show (gs.map fun g : Gr => if g.wd = true then g.ud else -1).set k (if (gs.getD k default).wd = true then (gs.getD k default).ud + dd.n else -1) = _
         rw [h1, set_self' _ 0 k (by rw [List.length_map]; exact hkl)]
        have eb : bus gs = bus (tkG gs dd.vo dd.us dd.n dd.t) := by
         rw [et]
         unfold bus
         rw [map_set]
         have : gs.map (fun g : Gr => g.g.bu) = (gs.map fun g => g.g.bu).set k (gs.getD k default).g.bu := by
          rw [← getD_mapI (fun g : Gr => g.g.bu) gs default hkl, set_self' _ 0 k (by rw [List.length_map]; exact hkl)]
         exact this
        have es : sumU gs + dd.n = sumU (tkG gs dd.vo dd.us dd.n dd.t) := by
         rw [et, sumU_set hkl]
         show _ = _ - _ + ((gs.getD k default).ud + dd.n)
         omega
        have hrs : R64 (sumU gs + dd.n) := by unfold R64; omega
        repeat (first | (with_reducible first | refine Ju.go ?_ | (refine Hd.go ?_; intro K Q hK hQ; simp only [nod_tup, List.map_cons, nod2_imm, List.map_nil, e_x20, e_x21, List.getD_cons_zero, List.getD_cons_succ, nod_imm, Try.underlying30, e_eql, decide_true, e_cond, if_true, nod_cptr, e_fac, Nat.reduceAdd, lv_cons, List.length_nil, Nat.zero_add, Nat.reduceLeDiff, true_and, e_ldc, Try.underlying3, e_add]; subst hK hQ) | refine Jr.go ?_) | refine sd ?_)
        rw [eb, es, ← hlk]
        exact key _ g' bC f _ (by omega) hf (hB.upd kf1 ld1 htk ec hlk)
      ·rw [if_neg hak] at hq
       obtain ⟨rfl, rfl⟩ := hq
       have d2 : ¬ (2 : Int) = 0 := by decide
       repeat (first | (with_reducible first | refine Ju.go ?_ | (refine Hd.go ?_; intro K Q hK hQ; simp only [nod_tup, List.map_cons, nod2_imm, List.map_nil, e_x20, e_x21, List.getD_cons_zero, List.getD_cons_succ, nod_imm, Try.underlying30, e_eql, d2, decide_false, e_cond, Bool.false_eq_true, if_false]; subst hK hQ) | refine Jr.go ?_) | refine sd ?_)
       exact key gs g' bC f _ (by omega) hf hB
     ·repeat (first | (with_reducible first | refine Ju.go ?_ | (refine Hd.go ?_; intro K Q hK hQ; simp only [k1, if_false, List.getD_cons_succ, List.getD_cons_zero, nod_imm, Try.underlying3, e_eql, k2, decide_false, e_cond, Bool.false_eq_true, k4]; subst hK hQ) | refine Jr.go ?_) | refine sd ?_)
      exact key gs g' bC f _ (by omega) hf hB
  ·obtain rfl : i = l.length := by omega
   have d : ¬ ((l.length : Nat) : Int) < l.length := by omega
   repeat (first | (with_reducible first | refine Ju.go ?_ | (refine Hd.go ?_; intro K Q hK hQ; simp only [d, if_false]; subst hK hQ) | refine Jr.go ?_) | refine sd ?_)
   refine call_of (c15x _) ?_
   repeat (first | (with_reducible first | refine Ju.go ?_ | (refine Hd.go ?_; intro K Q hK hQ; simp only [Try.underlying3, Try.underlying4, Try.underlying5, Try.underlying9, Try.underlying22, Try.underlying23, Try.underlying30, Try.underlying43, Try.underlying44, Try.underlying57, Try.underlying100, Try.underlying124, Try.underlying184, j_one, j_side, j_tl, j_fl, nod_nod, nod_imm, nod_ints, nd_no, nd_own, nd_full, nd_fO, oF_ap, oF_succ, nod_sl, nod_ptr, nod_cptr, nod_fn, nod_junk, nodL_imm, nod_agg, nod_tup, nod2_imm, nod2_agg, cl_imm, cl_ints, cl_agg, e_add, e_sub, e_mul, e_quo, e_rem, e_eql, e_neq, e_lss, e_leq, e_gtr, e_geq, e_beq, e_bne, e_neg, e_not, e_pick, e_cond, e_gT, e_gF, e_len, e_lenA, e_lenS, e_ix, e_ixS, e_ldc, e_ldci, e_fa, rep_cl, rep_I, e_bx, okE_I, okE_B, okE_E8, okE_ints, stV_imm, stV_ints, j_and', j_or', List.getD_cons_zero, List.getD_cons_succ, List.map_cons, List.map_nil, decide_eq_true_eq, Int.toNat_natCast, Nat.mul_one, Nat.zero_add, true_and, and_true, List.length_map, Bool.not_eq_true', decide_eq_false_iff_not, nod_lists, e_lenL, e_ixL, okE_lists, bs1, bs1L, bs2L, e_app, e_appL, e_app0, e_app0L, e_slcLo, e_slcHi, e_slcLH, e_slcHH, e_slcLHH, e_callG, e_callY, e_calmG, e_slS0, e_slSLo, e_slSHi, e_slSLH, e_slSHH, e_slSLHH, e_max2, e_min2, e_max3, e_x20, e_x21, e_x30, e_x31, e_x32, nod2_ints, nod2_lists, rep_fl, bs0, e_nilE, if_true, if_false, cond_true, cond_false, decide_true, decide_false, eq_self, Bool.false_eq_true, false_implies, true_implies, ap_own, ap_full, e_slcLoL, e_slcHiL, e_slcLHL, hp_assoc, hp_cons, hp_nil, hp_len, hp_len_cons, hp_len_nil, lv_cons, lv_nil, vs_0, vs_s, spl_s, spl_0, spl_n, dr_s, dr_0, tk_s, tk_0, e_bxI, e_fac, e_facA, e_ldcA, e_ldcL, e_ldcF, okE_agg, ck_I, ck_B, ck_ints, ck_lists, ck_arr, ck_ptr, ck_cptr, ck_fn, all_c, all_n, stV_agg, stV_lists, stV_arr, stV_ptr, stV_cptr, stV_fn, nodL_ints, nodL_lists, nodL_ptr, nodL_cptr, nodL_fn, nodL_arr0, cl_arr, cl_ptr, cl_cptr, cl_fn, cl_lists, okE_arr, okE_fn, okE_ptr, okE_cptr, e_bd0, e_bd1, e_wr, Nat.reduceAdd, Nat.reduceLeDiff, Nat.reduceEqDiff, Nat.add_zero, Bool.and_self, Bool.true_and, Bool.and_true, e_lc0, e_lA0, e_lM0, e_sc0, e_rc0, e_rA0, e_lI0, e_sI0, e_cI0, e_lc1, e_lA1, e_lM1, e_sc1, e_rc1, e_rA1, e_lI1, e_sI1, e_cI1, e_lc2, e_lA2, e_lM2, e_sc2, e_rc2, e_rA2, e_lI2, e_sI2, e_cI2, e_lc3, e_lA3, e_lM3, e_sc3, e_rc3, e_rA3, e_lI3, e_sI3, e_cI3, e_lc4, e_lA4, e_lM4, e_sc4, e_rc4, e_rA4, e_lI4, e_sI4, e_cI4, e_lc5, e_lA5, e_lM5, e_sc5, e_rc5, e_rA5, e_lI5, e_sI5, e_cI5, own0_arr, own0_ints, own0_lists, own0_imm, own0_ptr, own0_cptr, own0_fn, own0_agg, e_appB, e_appB0, ck_sl, own0_sl, stV_sl, nodL_sl, cl_sl, okE_sl, e_mkM, e_mkI, e_mkIm, e_callB, nod_bfn, nod_ifc, nod_map, nodL_ifc, nodL_bfn, nodL_map, cl_ifc, cl_bfn, ck_ifc, ck_bfn, ck_map, stV_ifc, okE_ifc, okE_bfn, nod_arr, nodL_arr, e_addU, e_mulU, e_shrK, e_shlK, e_andK, e_cv64, e_cv32, e_callEG, e_callEY, e_callEB, e_zr, e_nilSl, e_ncP, e_ncC, e_ncI, e_npnP, e_npeP, e_npnC, e_npeC, e_npnN, e_npeN, e_ixAP, e_ldcP, e_ldcS, e_ldcV, e_ldcT, okE_nilP, ck_nilP, okE_nilI, ck_nilI, okE_str, ck_str, e_tlen, e_tix, e_teq, e_tne, e_tadd, e_tb, e_u8lss, e_u8gtr, noV_full, nod_arr, List.length_map, reduceIte, Int.reduceEq, Int.reduceNeg, ne_eq, not_true_eq_false, not_false_eq_true, Bool.not_true, Bool.not_false, Bool.true_or, Bool.or_true, Bool.false_or, Bool.or_false, Bool.and_true, Bool.and_false, Bool.false_and, Bool.not_not, Bool.or_self, List.length_nil, Int.ofNat_zero, Int.cast_ofNat_Int, Int.natCast_zero, beq_self_eq_true, Bool.true_eq_false]; subst hK hQ) | refine Jr.go ?_) | refine sd ?_)
   exact end1T (fzI _) (take_low hB.lo (by have := hB.ln; omega))
open Go.ChangeShapes Go.WideShapes Go.ChangeAt Go.RowKit
theorem opensDd {H : Type} {enc : TypeId × Value → H} {W : World} : Opens enc W 64 ddV := fun n cs y h => by
 obtain ⟨hl, hf⟩ := fields Try.underlying64 h
 rw [show Try.prog.cellsOf 64 = 10 by kernel_rfl] at hl
 match cs, hl with
 | [c0, c1, c2, c3, c4, c5, c6, c7, c8, c9], _ =>
  obtain ⟨a, ha⟩ := one (opens3 (enc := enc)) (fun _ => rfl) (fld1 (hf 0 _ rfl) k3 rfl)
  obtain ⟨m, z, hz⟩ := hf 1 _ rfl
  have hz' : DataW.trod enc Try.prog W 0 (fun _ => true) true m 41 (([c0, c1, c2, c3, c4, c5, c6, c7, c8, c9].drop 1).take (Try.prog.cellsOf 41)) = some z := hz
  rw [show Try.prog.cellsOf 41 = 5 by kernel_rfl] at hz'
  obtain ⟨g, hg⟩ := opens41 (enc := enc) _ _ _ hz'
  obtain ⟨b, hb⟩ := one (opens3 (enc := enc)) (fun _ => rfl) (fld1 (hf 2 _ rfl) k3 rfl)
  obtain ⟨c, hc⟩ := one (opens3 (enc := enc)) (fun _ => rfl) (fld1 (hf 3 _ rfl) k3 rfl)
  obtain ⟨d, hd⟩ := one (opens3 (enc := enc)) (fun _ => rfl) (fld1 (hf 4 _ rfl) k3 rfl)
  obtain ⟨e, he⟩ := one (opens3 (enc := enc)) (fun _ => rfl) (fld1 (hf 5 _ rfl) k3 rfl)
  exact ⟨⟨a, g, b, c, d, e⟩, cr_cons ha (cr_app hg (cr_cons hb (cr_cons hc (cr_cons hd (cr_cons he cr_nil)))))⟩
theorem opens61 {H : Type} {enc : TypeId × Value → H} {W : World} : Opens enc W 61 fun l : {l : List Dd // l.length ≤ maxLen} => .arr (l.1.map ddV) .no := opens_sliceB (s := 10) Try.underlying61 (by decide) (by kernel_rfl) (fun x => ⟨rfl, rfl⟩) opensDd
theorem in_deeds {H : Type} {enc : TypeId × Value → H} {W : World} {base : Nat} {v : Value} {d : DataW H} {p : List MemPlace} (hv : Value.okWide Try.prog W .any base 61 v) (hA : DataW.Trod enc Try.prog W 0 (fun _ => true) true 61 v d p) : ∃ l : List Dd, l.length ≤ 9223372036854775807 ∧ Rel (sg0 W) W (.arr (l.map ddV) .no) v := by
 obtain ⟨x, hx⟩ := in_one Try.underlying61 (opens61 (enc := enc)) (fun _ => rfl) hv hA
 exact ⟨x.1, x.2, hx⟩
end Go.Proofs.Ytlnjhnemmemloaa
namespace Go.Proofs.Ytlnjhnemmemloaa
open Go Go.Ab Go.Proofs
attribute [local congr] g_bin g_nilS g_nilP g_un g_ext g_bx g_fa g_ld g_st g_ix g_ixA g_slc g_mk g_bs g_bd g_nc g_cv g_len g_lenT g_app g_appB g_cpy g_mm g_call g_callG g_calm g_calmG g_range g_res g_pick g_cond g_loop g_Jv g_eqS g_eqP g_fd g_ixT g_ta g_lkp g_upd g_mkM g_appS g_inv g_callE g_callEG g_invE g_zr g_wr
open Go.ChangeShapes Go.WideShapes Go.ChangeAt Go.RowKit
theorem own : ownKnob Try.prog.godebug = none := by kernel_rfl
theorem laidOut : laidOutB Try.prog = true := by kernel_rfl
set_option maxRecDepth 100000 in
theorem lifted (os : Os) (started : os.Started) (H : Type) (enc : TypeId × Value → H) :
    ReturnsInHanded {} Try.checked os 6 .any (Rows.streamBudgetsSpec.pre6 enc Try.prog Try.f6 Rows.streamBudgetsRow.domain false) (Rows.streamBudgetsSpec.post enc Try.prog Try.f6 false true false false) := by
  refine returnsInHanded_of_change (C := Try.checked) own started (by kernel_rfl) Try.func6
    (ChangeSpec.witness6 (enc := enc) (C := Try.checked) false ⟨#[], #[.slice none 0 0], []⟩ 8 (by kernel_rfl) (by kernel_rfl) (by kernel_rfl) (by kernel_rfl)) ?_
  intro W base args ds gs before hval0 hW hcnd _
  have hval : ∀ (j : Nat) t v, Try.f6.params[j]? = some t → args[j]? = some v → Value.okWide Try.prog W .any base t v := hval0
  have hW' := hW
  obtain ⟨p, q, hA0, hV, rfl, hfz, hnd⟩ := hW
  have hA : DataW.TrodAll enc Try.prog W 0 (fun _ => true) true Try.f6.params.toList args.toList ds p := hA0
  rw [Try.params6] at hA hval
  obtain ⟨v0, vs0, d0, ds0, p0, q0, hargs, rfl, rfl, h0, r0⟩ := trodAll_cons hA
  obtain ⟨rfl, rfl, rfl⟩ := trodAll_nil r0
  obtain rfl : args = #[v0] := by cases args; simp_all
  obtain ⟨rfl, rfl⟩ := trodVars_none hV
  have lt0 : ∀ x ∈ p0, x.block < W.heap.size := by obtain ⟨m, hm⟩ := h0; exact DataW.trod_lt m _ _ _ hm
  obtain ⟨l0, w0, e0⟩ := in_deeds (hval 0 _ v0 rfl rfl) h0
  clear hA0 hval0
  refine (bridge (args := [.arr (l0.map ddV) .no]) (ra := #[v0]) (c6 l0 [] w0) rfl (by intro a ha; simp at ha; rcases ha with rfl <;> rfl) (fun i => ?_)).mono fun e W' ⟨he, bel⟩ => ?_
  · match i with
    | 0 => exact e0
    | i + 1 => exact .junk _
  · subst he
    exact ⟨_, rfl, _, _, _, [], _, [], hW', trodAll_mk1 (shut_bool Try.underlying4 _), (trodAll_cons_mk (Below.trod laidOut (by kernel_rfl) (of_decide_eq_true (by kernel_rfl)) h0 bel lt0) trodAll_mk0), rfl, bel.frame _, fun h => by cases h⟩
theorem over : Rows.streamBudgetsRow.holds Try.pinned (OpenSpec.ofChange Rows.streamBudgetsSpec) :=
 OpenClaim.holds_of_wide 6 Try.f6 rfl rfl rfl rfl rfl rfl rfl ⟨rfl, rfl, rfl, rfl, rfl⟩ rfl rfl rfl rfl rfl (by kernel_rfl) Try.func6 (by kernel_rfl)
  (of_decide_eq_true (by kernel_rfl)) (by unfold Func.isWrapper; first | (rw [if_pos (by decide +kernel)]; kernel_rfl) | (rw [if_neg (by decide +kernel)]; exact ⟨rfl, rfl⟩))
  (fun os started H enc _ => lifted os started H enc)
theorem streamBudgets_holds : Rows.StreamBudgetsSaid := over
#print axioms streamBudgets_holds
end Go.Proofs.Ytlnjhnemmemloaa
