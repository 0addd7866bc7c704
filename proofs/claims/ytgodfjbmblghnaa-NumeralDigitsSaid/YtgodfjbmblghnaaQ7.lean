/- NumeralDigits: in a positional system each number is said digit by digit, with a mark before each further digit that is not 0; no condition. -/
import Derived.Test.YtgodfjbmblghnaaP6
import Derived.Test.YtgodfjbmblghnaaProg
import Derived.Test.YtgodfjbmblghnaaRows
set_option linter.unusedVariables false
set_option maxRecDepth 20000
set_option maxHeartbeats 4000000
namespace Go.Proofs.Ytgodfjbmblghnaa
open Go Go.Ab Go.Proofs
def an7 : An := { imm := [39, 42, 44, 51, 53, 76, 78, 81, 110, 134], jn := [(2, [0, 1, 26]), (9, [0, 1, 5, 6, 7]), (10, [0, 1, 5, 6]), (12, [0, 1, 5, 6, 8]), (13, [0, 1, 5, 6, 8]), (16, [0, 1, 9, 10]), (20, [0, 9, 11, 12]), (23, [0, 9, 11, 12]), (25, [0, 9, 11, 12, 145])], lp := [(6, [0, 1, 5, 6, 7]), (11, [0, 1, 5, 6, 8]), (21, [0, 9, 11, 12])], loud := [115], ord := [] }
def vc7 (C : Cb) (a0 a1 : V) (H : Hp) (R : List V → Hp → Prop) : Prop :=
 Jn (fun l1 H2 =>
 aCond (l1.getD 2 .junk).nod (
 C.callE 15 [] H2 fun v4 H5 =>
 R [v4] H5) (
 C.aBd [(I 0), (I 0), (I 0), (I 0), (V.arr [] .full), (V.arr [] .full), (V.arr [] .full)] [(0, 1, (I 2000)), (1, 1, (I 1)), (2, 1, (I 1)), (3, 1, (I 1))] fun v6 =>
 C.aBx false 7 (V.agg [(I 0), (I 0), (I 0), (I 0), (V.arr [] .full), (V.arr [] .full), (V.arr [] .full)]) H2 fun v7 H8 =>
 C.aSt 7 v7.nod v6 H8 fun v9 H10 =>
 Jn (fun l11 H12 =>
 LoopA (fun l14 H15 K16 =>
 Jn (fun l17 H18 =>
 Jn (fun l20 H21 =>
 C.aBin (Try.prog.underlying 3) .add (l20.getD 4 .junk).nod.nod (I 1) fun v23 =>
 K16 [(l20.getD 0 .junk), (l20.getD 1 .junk), (l20.getD 2 .junk), (l20.getD 3 .junk), v23] H21)
 (fun R22 =>
 C.aBin (Try.prog.underlying 3) .mul (l17.getD 0 .junk).nod.nod (l17.getD 4 .junk).nod.nod fun v24 =>
 C.aBd [(I 0), (I 0), (I 0), (I 0)] [(0, 1, (I 3))] fun v25 =>
 C.aBd [(I 0), (I 0), (I 0), (I 0)] [(0, 1, (I 5)), (1, 1, (I 0))] fun v26 =>
 C.aBd [(I 0), (I 0), (I 0), (I 0)] [(0, 1, (I 4))] fun v27 =>
 C.aBS 4 3 (V.agg [(I 0), (I 0), (I 0), (I 0)]) [(0, v25.nod), (1, v26.nod), (2, v27.nod)] fun v28 =>
 C.aBd [(I 0), (I 0), (V.arr [] .full)] [(0, 1, v24.nod), (1, 1, (l17.getD 0 .junk).nod.nod.nod), (2, 1, (noV v28).nod.nod)] fun v29 =>
 C.aBS 3 1 (V.agg [(I 0), (I 0), (V.arr [] .full)]) [(0, (own0 v29 v24).nod)] fun v30 =>
 C.aApp 3 40 (l17.getD 3 .junk) (noV v30).nod fun v31 =>
 R22 [(l17.getD 0 .junk), (l17.getD 1 .junk), (l17.getD 2 .junk), v31, (l17.getD 4 .junk)] H18))
 (fun R19 =>
 C.aBin (Try.prog.underlying 3) .mul (l14.getD 0 .junk).nod.nod (l14.getD 4 .junk).nod.nod fun v32 =>
 C.aBin (Try.prog.underlying 3) .add v32.nod (l14.getD 0 .junk).nod.nod fun v33 =>
 C.aBin (Try.prog.underlying 3) .sub v33.nod (I 1) fun v34 =>
 C.aBin (Try.prog.underlying 3) .leq v34.nod (I 2000) fun v35 =>
 Jv (fun v36 H37 =>
 aCond v36.nod (
 R19 [(l14.getD 0 .junk), (l14.getD 1 .junk), (l14.getD 2 .junk), (l14.getD 3 .junk), (l14.getD 4 .junk)] H37) (
 C.aBS 1 1 (V.arr [] .full) [(0, (l14.getD 3 .junk).nod.nod)] fun v40 =>
 C.aFA 6 1 false (l14.getD 2 .junk).nod fun v41 =>
 C.aSt 1 v41.nod (noV v40) H37 fun v42 H43 =>
 Jn (fun l44 H45 =>
 C.aBin (Try.prog.underlying 29) .neq (l44.getD 3 .junk).nod.nod (I 0) fun v47 =>
 aCond v47.nod (
 R [(B false)] H45) (
 C.aLen (l44.getD 2 .junk).nod.nod fun v48 =>
 LoopA (fun l49 H50 K51 =>
 Jn (fun l52 H53 =>
 C.aBin (Try.prog.underlying 3) .quo (l52.getD 3 .junk).nod.nod (l52.getD 0 .junk).nod.nod fun v55 =>
 K51 [(l52.getD 0 .junk), (l52.getD 1 .junk), (l52.getD 2 .junk), v55] H53)
 (fun R54 =>
 Jn (fun l56 H57 =>
 C.aBin (Try.prog.underlying 3) .rem (l56.getD 3 .junk).nod.nod (l56.getD 0 .junk).nod.nod fun v59 =>
 C.aBin (Try.prog.underlying 3) .gtr v59.nod (I 0) fun v60 =>
 aCond v60.nod (
 Jn (fun l61 H62 =>
 aCond (l61.getD 4 .junk).nod (
 R [(B false)] H62) (
 C.aBin (Try.prog.underlying 3) .sub (l61.getD 2 .junk).nod.nod (I 2) fun v64 =>
 R54 [(l61.getD 0 .junk), (l61.getD 1 .junk), v64, (l61.getD 3 .junk)] H62))
 (fun R63 =>
 C.aBin (Try.prog.underlying 3) .lss (l56.getD 2 .junk).nod.nod (I 3) fun v65 =>
 Jv (fun v66 H67 =>
 Jv (fun v79 H80 =>
 R63 [(l56.getD 0 .junk), (l56.getD 1 .junk), (l56.getD 2 .junk), (l56.getD 3 .junk), v79] H80)
 (fun R81 =>
 aG v66.nod false (
 C.aBin (Try.prog.underlying 3) .sub (l56.getD 2 .junk).nod.nod (I 2) fun v82 =>
 C.aIx 1 (l56.getD 1 .junk).nod.nod v82.nod fun v83 =>
 C.aLd 1 false false v83.nod H67 fun v84 H85 =>
 C.aBin (Try.prog.underlying 9) .neq v84.nod (V.imm (.string (ByteArray.mk #[97]))) fun v86 =>
 R81 v86.nod H85) (
 R81 (B true) H67)))
 (fun R68 =>
 aG v65.nod false (
 C.aBin (Try.prog.underlying 3) .sub (l56.getD 2 .junk).nod.nod (I 1) fun v69 =>
 C.aIx 1 (l56.getD 1 .junk).nod.nod v69.nod fun v70 =>
 C.aLd 1 false false v70.nod H57 fun v71 H72 =>
 C.aBin (Try.prog.underlying 3) .rem (l56.getD 3 .junk).nod.nod (l56.getD 0 .junk).nod.nod fun v73 =>
 C.aBin (Try.prog.underlying 3) .add (I 97) v73.nod fun v74 =>
 C.aCv (Try.prog.underlying 5) v74.nod fun v75 =>
 C.aBS 1 1 (V.imm (.int .u8 0)) [(0, v75.nod)] fun v76 =>
 C.aBT (noV v76).nod fun v77 =>
 C.aBin (Try.prog.underlying 9) .neq v71.nod v77.nod fun v78 =>
 R68 v78.nod H72) (
 R68 (B true) H57)))) (
 R54 [(l56.getD 0 .junk), (l56.getD 1 .junk), (l56.getD 2 .junk), (l56.getD 3 .junk)] H57))
 (fun R58 =>
 C.aBin (Try.prog.underlying 3) .lss (l49.getD 3 .junk).nod.nod (l49.getD 0 .junk).nod.nod fun v87 =>
 aCond v87.nod (
 C.aBin (Try.prog.underlying 3) .eql (l49.getD 2 .junk).nod.nod (I 1) fun v88 =>
 Jv (fun v89 H90 =>
 Jv (fun v100 H101 =>
 R [v100] H101)
 (fun R102 =>
 aG v89.nod true (
 C.call 15 [] H90 fun v103 H104 =>
 R102 v103.nod H104) (
 R102 (B false) H90)))
 (fun R91 =>
 aG v88.nod true (
 C.aIx 1 (l49.getD 1 .junk).nod.nod (I 0) fun v92 =>
 C.aLd 1 false false v92.nod H50 fun v93 H94 =>
 C.aBin (Try.prog.underlying 3) .add (I 97) (l49.getD 3 .junk).nod.nod fun v95 =>
 C.aCv (Try.prog.underlying 5) v95.nod fun v96 =>
 C.aBS 1 1 (V.imm (.int .u8 0)) [(0, v96.nod)] fun v97 =>
 C.aBT (noV v97).nod fun v98 =>
 C.aBin (Try.prog.underlying 9) .eql v93.nod v98.nod fun v99 =>
 R91 v99.nod H94) (
 R91 (B false) H50))) (
 R58 [(l49.getD 0 .junk), (l49.getD 1 .junk), (l49.getD 2 .junk), (l49.getD 3 .junk)] H50))))
 [(l44.getD 0 .junk), (l44.getD 2 .junk), v48, (l44.getD 1 .junk).nod] H45))
 (fun R46 =>
 C.aLd 7 true false (l14.getD 2 .junk).nod H43 fun v105 H106 =>
 C.aBd [(I 0), (I 0), (I 0), (I 0)] [(0, 1, (l14.getD 1 .junk).nod.nod)] fun v107 =>
 C.callE 20 [v105.nod, (own0 v107 (l14.getD 1 .junk).nod).nod] H106 fun v108 H109 =>
 C.aExt 0 v108.nod.nod fun v110 =>
 C.aExt 1 v108.nod.nod fun v111 =>
 R46 [(l14.getD 0 .junk), (l14.getD 1 .junk), v110, v111] H109)))
 (fun R38 =>
 aG v35.nod true (
 C.aBin (Try.prog.underlying 3) .lss (l14.getD 4 .junk).nod.nod (I 15) fun v39 =>
 R38 v39.nod H15) (
 R38 (B false) H15))))
 [(l11.getD 0 .junk), (l11.getD 1 .junk), (l11.getD 2 .junk), (l11.getD 3 .junk), (I 1)] H12)
 (fun R13 =>
 LoopA (fun l112 H113 K114 =>
 C.aBin (Try.prog.underlying 3) .lss (l112.getD 4 .junk).nod.nod (l112.getD 0 .junk).nod.nod fun v115 =>
 aCond v115.nod (
 Jn (fun l116 H117 =>
 C.aBd [(I 0), (I 0), (I 0), (I 0)] [(0, 1, (I 1)), (1, 1, (l116.getD 4 .junk).nod.nod.nod)] fun v119 =>
 C.aBS 4 1 (V.agg [(I 0), (I 0), (I 0), (I 0)]) [(0, v119.nod)] fun v120 =>
 C.aBd [(I 0), (I 0), (V.arr [] .full)] [(0, 1, (l116.getD 4 .junk).nod.nod), (2, 1, (noV v120).nod.nod)] fun v121 =>
 C.aBS 3 1 (V.agg [(I 0), (I 0), (V.arr [] .full)]) [(0, (own0 v121 (l116.getD 4 .junk).nod).nod)] fun v122 =>
 C.aApp 3 40 (l116.getD 3 .junk) (noV v122).nod fun v123 =>
 C.aBin (Try.prog.underlying 3) .add (l116.getD 4 .junk).nod.nod (I 1) fun v124 =>
 K114 [(l116.getD 0 .junk), (l116.getD 1 .junk), (l116.getD 2 .junk), v123, v124] H117)
 (fun R118 =>
 C.aFA 4 1 false (l112.getD 2 .junk).nod fun v125 =>
 C.aLd 1 false true v125.nod H113 fun v126 H127 =>
 C.aBin (Try.prog.underlying 3) .add (I 97) (l112.getD 4 .junk).nod.nod fun v128 =>
 C.aCv (Try.prog.underlying 5) v128.nod fun v129 =>
 C.aBS 1 1 (V.imm (.int .u8 0)) [(0, v129.nod)] fun v130 =>
 C.aBT (noV v130).nod fun v131 =>
 C.aBd [(I 0), (I 0), (I 0), (V.imm (.string (ByteArray.mk #[])))] [(0, 1, (I (-1))), (1, 1, (I (-1))), (2, 1, (I (-1))), (3, 1, v131.nod.nod)] fun v132 =>
 C.aBS 4 1 (V.agg [(I 0), (I 0), (I 0), (V.imm (.string (ByteArray.mk #[])))]) [(0, v132.nod)] fun v133 =>
 C.aBd [(I 0), (V.arr [] .full)] [(1, 1, (noV v133).nod.nod)] fun v134 =>
 C.aBS 2 1 (V.agg [(I 0), (V.arr [] .full)]) [(0, v134.nod)] fun v135 =>
 C.aApp 2 32 v126 (noV v135).nod fun v136 =>
 C.aFA 4 1 false (l112.getD 2 .junk).nod fun v137 =>
 C.aSt 1 v137.nod v136 H127 fun v138 H139 =>
 R118 [(l112.getD 0 .junk), (l112.getD 1 .junk), (l112.getD 2 .junk), (l112.getD 3 .junk), (l112.getD 4 .junk)] H139)) (
 R13 [(l112.getD 0 .junk), (l112.getD 1 .junk), (l112.getD 2 .junk), (l112.getD 3 .junk)] H113))
 [(l1.getD 0 .junk), (l1.getD 1 .junk), v7, (V.arr [] .full), (I 0)] H10)))
 (fun R3 =>
 C.aBin (Try.prog.underlying 3) .lss a0.nod.nod (I 2) fun v140 =>
 Jv (fun v141 H142 =>
 Jv (fun v145 H146 =>
 Jv (fun v149 H150 =>
 R3 [a0, a1, v149] H150)
 (fun R151 =>
 aG v145.nod false (
 C.aBin (Try.prog.underlying 3) .gtr a1.nod.nod (I 2000) fun v152 =>
 R151 v152.nod H146) (
 R151 (B true) H146)))
 (fun R147 =>
 aG v141.nod false (
 C.aBin (Try.prog.underlying 3) .lss a1.nod.nod (I 0) fun v148 =>
 R147 v148.nod H142) (
 R147 (B true) H142)))
 (fun R143 =>
 aG v140.nod false (
 C.aBin (Try.prog.underlying 3) .gtr a0.nod.nod (I 12) fun v144 =>
 R143 v144.nod H) (
 R143 (B true) H)))
theorem wf7 : (Nat.ble 2 Try.f7.ntmps && wfC an7 Try.f7.ntmps (Try.f7.body.getD .skip)) = true := by kernel_rfl
theorem tie7 (C : Cb) (a0 a1 : V) (H : Hp) (R : List V → Hp → Prop) : wpG Try.prog C an7 (Try.f7.body.getD .skip) (argF [a0, a1]) H (retG Try.prog C Try.f7 R) (fun _ _ _ => False) (retG Try.prog C Try.f7 R) = vc7 C a0 a1 H R := by kernel_rfl
theorem mk7 (a0 a1 : V) {H : Hp} {v : V} {H1 : Hp} (hd : v.Nd) (hn : H.length ≤ H1.length) (hb : H1 = H ∨ ∀ (b : Nat) (blk : Blk), H1[b]? = some blk → H[b]? = some blk ∨ BelB H1.length blk) (h : vc7 (real Try.prog) a0 a1 H (retF v H1)) : Ret Try.prog 7 [a0, a1] H v H1 :=
  ret_mk (an := an7) hm Try.call7 Try.func7 rfl wf7 hd hn hb (Eq.mpr (tie7 (real Try.prog) a0 a1 H (retF v H1)) h)
theorem mkE7 (a0 a1 : V) {H : Hp} {Q : V → Hp → Prop} (h : vc7 (real Try.prog) a0 a1 H (retW Q)) : RetE Try.prog 7 [a0, a1] H Q :=
  retE_mk (an := an7) hm Try.call7 Try.func7 rfl wf7 (Eq.mpr (tie7 (real Try.prog) a0 a1 H (retW Q)) h)
theorem mko7 (a0 a1 : V) {H : Hp} {xs : List V} {H1 : Hp} (hn : H.length ≤ H1.length) (hb : H1 = H ∨ ∀ (b : Nat) (blk : Blk), H1[b]? = some blk → H[b]? = some blk ∨ BelB H1.length blk) (h : vc7 (real Try.prog) a0 a1 H (retO xs H1)) : Ret Try.prog 7 [a0, a1] H (.arr xs .own) H1 :=
  ret_mko (an := an7) (t := 4) hm Try.call7 Try.func7 rfl wf7 rfl hn hb (Eq.mpr (tie7 (real Try.prog) a0 a1 H (retO xs H1)) h)
end Go.Proofs.Ytgodfjbmblghnaa


set_option linter.unusedVariables false
set_option linter.unusedSimpArgs false
set_option linter.unnecessarySimpa false
set_option maxRecDepth 20000
set_option maxHeartbeats 2000000
namespace Go.Proofs.Ytgodfjbmblghnaa
open Go Go.Ab Go.Proofs
attribute [local congr] g_bin g_nilS g_nilP g_un g_ext g_bx g_fa g_ld g_st g_ix g_ixA g_slc g_mk g_bs g_bd g_nc g_cv g_len g_lenT g_app g_appB g_cpy g_mm g_call g_callG g_calm g_calmG g_range g_res g_pick g_cond g_loop g_Jv g_eqS g_eqP g_fd g_ixT g_ta g_lkp g_upd g_mkM g_appS g_inv g_callE g_callEG g_invE g_zr g_wr
theorem Ret.weakC1 {P : Program} {f : Nat} {cs cs' rest : List V} {H H' : Hp} {v : V} (h : Ret P f (.agg cs' :: rest) H v H') (k : WkC cs cs') (hd : (V.agg cs').Nd) : Ret P f (.agg cs :: rest) H v H' := by
  refine ⟨h.1, fun σ w ra hl hst hnd => ?_⟩
  have own : ∀ i j x rb, OwnB (leafV (argF (.agg cs' :: rest) i) j) x rb → leafV (argF (.agg cs' :: rest) i) j = leafV (argF (.agg cs :: rest) i) j := fun i j x rb ho => by
    cases i with
    | zero => exact absurd ho (not_own_Nd hd)
    | succ i => rfl
  obtain ⟨s1, o1⟩ := hst.reframe (argF (.agg cs' :: rest)) ra id (fun i => by
      cases i with
      | zero => exact (hst.frame 0).wkC k
      | succ i => exact hst.frame (i + 1)) (fun i j rb ho => ⟨own i j _ rb ho, rfl⟩) (fun i i' j j' rb _ _ e => e)
  refine (h.2 σ w ra hl s1 (fun a ha => by
    rcases List.mem_cons.1 ha with rfl | ha
    · exact hd
    · exact hnd a (by simp [ha]))).mono fun e w' he => ?_
  obtain ⟨x, σ', e1, e2, e3⟩ := he
  exact ⟨x, σ', e1, e2, e3.toLe, e3.os, e3.output, e3.tape, e3.size, fun rb q1 q2 q3 => e3.keep rb q1 q2 (fun q => q3 (o1 rb q)), fun rb q1 q2 => o1 rb (e3.own rb q1 q2), e3.fresh⟩
theorem e_cv8 (k : IntKind) (n : Int) {K : V → Prop} : aCv (some (.int .u8)) (.imm (.int k n)) K = K (.imm (.int .u8 (IntKind.u8.wrap n))) := rfl
theorem wrap8 {n : Int} (h0 : 0 ≤ n) (h1 : n < 256) : IntKind.u8.wrap n = n := by
  have : IntKind.u8.wrap n = n % 256 := rfl
  rw [this]
  exact Int.emod_eq_of_lt h0 h1
theorem bs1U (n : Int) (z : V) (K : V → Prop) : aBS 1 1 z [(0, u8V n)] K = K (.arr [u8V n] .full) := by
  simp [aBS, aPs, setP, okE, V.cl, cellOk]
  exact fun _ => rfl
theorem bt1 (n : Int) {K : V → Prop} : aBT (.arr [u8V n] .no) K = K (T ⟨#[UInt8.ofNat n.toNat]⟩) := by
  refine propext ⟨fun ⟨l, h1, h2⟩ => ?_, fun h => ⟨_, rfl, h⟩⟩
  have : l = [UInt8.ofNat n.toNat] := (Option.some.inj h1).symm
  rw [this] at h2
  exact h2
theorem c20d {b : Nat} (h1 : 2 ≤ b) (h2 : b ≤ 12) {n : Int} (n0 : 0 ≤ n) (n1 : n ≤ 2000) (H : Hp) : Ret Try.prog 20 [.agg [I 2000, I 1, I 1, I 1, .arr (((List.range b).map digT).map teV) .no, .arr [] .full, .arr ([digL b].map seV) .no], asV n 0 0 0] H (.tup [.arr ((dgD b n).map tb) .no, I 0]) H := by
  have hok := digAsk h1 h2 n0 n1
  obtain ⟨ha, hx⟩ := dig_all h1 h2 n0
  have c := c20 (digS b) n 0 0 0 H (digSm b h2)
  have e1 : spE (digS b) n 0 0 0 = 0 := by unfold spE; rw [if_pos hok, if_pos ha]
  have e2 : spL (digS b) n 0 0 0 = saW (digS b) n 0 0 0 := by unfold spL; rw [if_pos hok]; exact trW_all ha
  rw [e1, e2, tx_tb, hx] at c
  refine Ret.weakC1 c ?_ rfl
  exact .same _ (.same _ (.same _ (.same _ (.same _ (.full [] (.same _ .nil))))))
theorem mul_bd {b i : Nat} (hb : b ≤ 12) (hi : i ≤ 15) : (b : Int) * (i : Int) ≤ 180 ∧ 0 ≤ (b : Int) * (i : Int) := by
  have h1 : (b : Int) * (i : Int) ≤ 12 * (i : Int) := Int.mul_le_mul_of_nonneg_right (by omega) (by omega)
  have h2 : 0 ≤ (b : Int) * (i : Int) := Int.mul_nonneg (by omega) (by omega)
  omega
theorem c7 (bs n : Int) (H : Hp) : Ret Try.prog 7 [I bs, I n] H (B true) H := by
  refine mk7 _ _ rfl (Nat.le_refl _) (.inl rfl) ?_
  simp only [vc7, real]
  by_cases hq : (decide (bs < 2) || decide (12 < bs) || decide (n < 0) || decide (2000 < n)) = true
  · repeat (first | (with_reducible first | refine Ju.go ?_ | (refine Hd.go ?_; intro K Q hK hQ; simp only [nod_imm, Try.underlying3, e_lss, e_gtr, e_gF, j_or', j_one, hq, List.getD_cons_succ, List.getD_cons_zero, e_cond, if_true]; subst hK hQ) | refine Jr.go ?_) | refine sd ?_)
    refine call_of (c15 _) ?_
    repeat (first | (with_reducible first | refine Ju.go ?_ | (refine Hd.go ?_; intro K Q hK hQ; simp only [Try.underlying3, Try.underlying4, Try.underlying5, Try.underlying9, Try.underlying29, Try.underlying57, Try.underlying55, j_one, j_side, j_tl, j_fl, nod_nod, nod_imm, nod_ints, nd_no, nd_own, nd_full, nd_fO, oF_ap, oF_succ, nod_sl, nod_ptr, nod_cptr, nod_fn, nod_junk, nodL_imm, nod_agg, nod_tup, nod2_imm, nod2_agg, cl_imm, cl_ints, cl_agg, e_add, e_sub, e_mul, e_quo, e_rem, e_eql, e_neq, e_lss, e_leq, e_gtr, e_geq, e_beq, e_bne, e_neg, e_not, e_pick, e_cond, e_gT, e_gF, e_len, e_lenA, e_lenS, e_ix, e_ixS, e_ldc, e_ldci, e_fa, rep_cl, rep_I, e_bx, okE_I, okE_B, okE_E8, okE_ints, stV_imm, stV_ints, j_and', j_or', List.getD_cons_zero, List.getD_cons_succ, List.map_cons, List.map_nil, decide_eq_true_eq, Int.toNat_natCast, Nat.mul_one, Nat.zero_add, true_and, and_true, List.length_map, Bool.not_eq_true', decide_eq_false_iff_not, nod_lists, e_lenL, e_ixL, okE_lists, bs1, bs1L, bs2L, e_app, e_appL, e_app0, e_app0L, e_slcLo, e_slcHi, e_slcLH, e_slcHH, e_slcLHH, e_callG, e_callY, e_calmG, e_slS0, e_slSLo, e_slSHi, e_slSLH, e_slSHH, e_slSLHH, e_max2, e_min2, e_max3, e_x20, e_x21, e_x30, e_x31, e_x32, nod2_ints, nod2_lists, rep_fl, bs0, e_nilE, if_true, if_false, cond_true, cond_false, decide_true, decide_false, eq_self, Bool.false_eq_true, false_implies, true_implies, ap_own, ap_full, e_slcLoL, e_slcHiL, e_slcLHL, hp_assoc, hp_cons, hp_nil, hp_len, hp_len_cons, hp_len_nil, lv_cons, lv_nil, vs_0, vs_s, spl_s, spl_0, spl_n, dr_s, dr_0, tk_s, tk_0, e_bxI, e_fac, e_facA, e_ldcA, e_ldcL, e_ldcF, okE_agg, ck_I, ck_B, ck_ints, ck_lists, ck_arr, ck_ptr, ck_cptr, ck_fn, all_c, all_n, stV_agg, stV_lists, stV_arr, stV_ptr, stV_cptr, stV_fn, nodL_ints, nodL_lists, nodL_ptr, nodL_cptr, nodL_fn, nodL_arr0, cl_arr, cl_ptr, cl_cptr, cl_fn, cl_lists, okE_arr, okE_fn, okE_ptr, okE_cptr, e_bd0, e_bd1, e_wr, Nat.reduceAdd, Nat.reduceLeDiff, Nat.reduceEqDiff, Nat.add_zero, Bool.and_self, Bool.true_and, Bool.and_true, e_lc0, e_lA0, e_lM0, e_sc0, e_rc0, e_rA0, e_lI0, e_sI0, e_cI0, e_lc1, e_lA1, e_lM1, e_sc1, e_rc1, e_rA1, e_lI1, e_sI1, e_cI1, e_lc2, e_lA2, e_lM2, e_sc2, e_rc2, e_rA2, e_lI2, e_sI2, e_cI2, e_lc3, e_lA3, e_lM3, e_sc3, e_rc3, e_rA3, e_lI3, e_sI3, e_cI3, e_lc4, e_lA4, e_lM4, e_sc4, e_rc4, e_rA4, e_lI4, e_sI4, e_cI4, e_lc5, e_lA5, e_lM5, e_sc5, e_rc5, e_rA5, e_lI5, e_sI5, e_cI5, own0_arr, own0_ints, own0_lists, own0_imm, own0_ptr, own0_cptr, own0_fn, own0_agg, e_appB, e_appB0, ck_sl, own0_sl, stV_sl, nodL_sl, cl_sl, okE_sl, e_mkM, e_mkI, e_mkIm, e_callB, nod_bfn, nod_ifc, nod_map, nodL_ifc, nodL_bfn, nodL_map, cl_ifc, cl_bfn, ck_ifc, ck_bfn, ck_map, stV_ifc, okE_ifc, okE_bfn, nod_arr, nodL_arr, e_addU, e_mulU, e_shrK, e_shlK, e_andK, e_cv64, e_cv32, e_callEG, e_callEY, e_callEB, e_zr, e_nilSl, e_ncP, e_ncC, e_npnP, e_npeP, e_npnC, e_npeC, e_npnN, e_npeN, e_ixAP, e_ldcP, e_ldcS, e_ldcV, e_ldcT, okE_nilP, ck_nilP, okE_nilI, ck_nilI, okE_str, ck_str, e_tlen, e_tix, e_teq, e_tne, e_tadd, e_tb, e_u8lss, e_u8gtr, noV_full, nod_arr, List.length_map, reduceIte, Int.reduceEq, Int.reduceNeg, ne_eq, not_true_eq_false, not_false_eq_true, Bool.not_true, Bool.not_false, Bool.true_or, Bool.or_true, Bool.false_or, Bool.or_false, Bool.and_true, Bool.and_false, Bool.false_and, Bool.not_not, Bool.or_self, List.length_nil, Int.ofNat_zero, Int.cast_ofNat_Int, Int.natCast_zero, beq_self_eq_true, Bool.true_eq_false]; subst hK hQ) | refine Jr.go ?_) | refine sd ?_)
    exact end1 (fzI _)
  · have hq' := hq
    rw [Bool.or_eq_true, Bool.or_eq_true, Bool.or_eq_true, decide_eq_true_eq, decide_eq_true_eq, decide_eq_true_eq, decide_eq_true_eq, not_or, not_or, not_or] at hq'
    obtain ⟨b, rfl⟩ : ∃ b : Nat, bs = b := ⟨bs.toNat, by omega⟩
    have hb1 : 2 ≤ b := by omega
    have hb2 : b ≤ 12 := by omega
    have hn0 : 0 ≤ n := by omega
    have hn1 : n ≤ 2000 := by omega
    repeat (first | (with_reducible first | refine Ju.go ?_ | (refine Hd.go ?_; intro K Q hK hQ; simp only [nod_imm, Try.underlying3, e_lss, e_gtr, e_gF, j_or', j_one, hq, List.getD_cons_succ, List.getD_cons_zero, e_cond, Bool.false_eq_true, if_false, e_bd1, okE_I, Nat.zero_add, lv_cons, List.length_nil, Nat.reduceAdd, Nat.reduceLeDiff, cl_imm, spl_0, spl_n, spl_s, e_bd0, true_and, e_bx, okE_agg, all_c, ck_I, ck_arr, all_n, Bool.and_self, and_true, cl_agg, nod_ptr, e_sc0, stV_agg, List.map_cons, nodL_imm, nodL_arr, nd_full, List.map_nil]; subst hK hQ) | refine Jr.go ?_) | refine sd ?_)
    refine loop_of (fun i : Nat => i ≤ b) (fun i => [I b, I n, .ptr H.length 0, .arr (((List.range i).map digN).map nuV) (oF i), I i]) (fun i => H ++ [.cells [I 2000, I 1, I 1, I 1, .arr (((List.range i).map digT).map teV) (oF i), .arr [] .full, .arr [] .full]]) (fun i => b - i) 0 (Nat.zero_le _) rfl rfl ?_
    intro i hi
    repeat (first | (with_reducible first | refine Ju.go ?_ | (refine Hd.go ?_; intro K Q hK hQ; simp only [List.getD_cons_succ, List.getD_cons_zero, nod_imm, Try.underlying3, e_lss, e_cond, decide_eq_true_eq]; subst hK hQ) | refine Jr.go ?_) | refine sd ?_)
    by_cases hlt : i < b
    · have d : (i : Int) < b := by omega
      have w8 : IntKind.u8.wrap (97 + (i : Int)) = 97 + (i : Int) := wrap8 (by omega) (by omega)
      have ap1 : ∀ K, aApp 2 32 (.arr (((List.range i).map digT).map teV) (oF i)) (.arr [.agg [I 0, .arr [.agg [I (-1), I (-1), I (-1), T (dgT i)]] .no]] .no) K = ((oF i).ap = true ∧ (((List.range i).map digT).length + 1) * 32 ≤ 140737488355328 ∧ K (.arr (((List.range i).map digT ++ [digT i]).map teV) .own)) := fun K => appTe _ _ [digT i] rfl _ _ K
      have ap2 : ∀ K, aApp 3 40 (.arr (((List.range i).map digN).map nuV) (oF i)) (.arr [.agg [I i, I 0, .arr [.agg [I 1, I i, I 0, I 0]] .no]] .no) K = ((oF i).ap = true ∧ (((List.range i).map digN).length + 1) * 40 ≤ 140737488355328 ∧ K (.arr (((List.range i).map digN ++ [digN i]).map nuV) .own)) := fun K => appNu _ _ [digN i] rfl _ _ K
      have tl : ((List.range i).map digT).length = i := by simp
      have nl : ((List.range i).map digN).length = i := by simp
      have edg : (⟨#[UInt8.ofNat (97 + (i : Int)).toNat]⟩ : ByteArray) = dgT i := rfl
      repeat (first | (with_reducible first | refine Ju.go ?_ | (refine Hd.go ?_; intro K Q hK hQ; simp only [d, if_true, List.getD_cons_succ, List.getD_cons_zero, nod_ptr, e_fa, Nat.zero_add, e_lM0, Nat.reduceAdd, lv_cons, List.length_nil, Nat.reduceLeDiff, nodL_arr, vs_s, vs_0, true_and, nod_imm, Try.underlying3, e_add, Try.underlying5, e_cv8, w8, bs1U, noV_full, nod_arr, nd_no, bt1, edg, Int.reduceNeg, e_bd1, okE_I, cl_imm, spl_0, spl_n, spl_s, okE_str, e_bd0, nod_agg, List.map_cons, nodL_imm, List.map_nil, bs1f, okE_arr, cl_arr, bs1t, ap1, oF_ap, tl, e_sc0, stV_arr]; subst hK hQ) | refine Jr.go ?_) | refine sd ?_)
      repeat (first | (with_reducible first | refine Ju.go ?_ | (refine Hd.go ?_; intro K Q hK hQ; simp only [bs1p, List.getD_cons_succ, List.getD_cons_zero, nod_imm, noV_full, nod_arr, nd_no, e_bd1, okE_I, Nat.zero_add, lv_cons, List.length_nil, Nat.reduceAdd, Nat.reduceLeDiff, cl_imm, spl_0, spl_n, okE_arr, cl_arr, spl_s, e_bd0, true_and, own0_imm, nod_agg, List.map_cons, nodL_imm, nodL_arr, List.map_nil, bs1n, ap2, oF_ap, nl, Try.underlying3, e_add]; subst hK hQ) | refine Jr.go ?_) | refine sd ?_)
      refine ⟨i + 1, by omega, ?_, ?_, by omega⟩
      · rw [List.range_succ, List.map_append]; rfl
      · rw [List.range_succ, List.map_append]; rfl
    · have d : ¬ (i : Int) < b := by omega
      obtain rfl : i = b := by omega
      repeat (first | (with_reducible first | refine Ju.go ?_ | (refine Hd.go ?_; intro K Q hK hQ; simp only [d, if_false, List.getD_cons_zero, List.getD_cons_succ]; subst hK hQ) | refine Jr.go ?_) | refine sd ?_)
      refine loop_of (fun j : Nat => j ≤ 14) (fun j => [I i, I n, .ptr H.length 0, .arr (((List.range i).map digN ++ (List.range j).map (digM i)).map nuV) .own, I ((j : Int) + 1)]) (fun j => H ++ [.cells [I 2000, I 1, I 1, I 1, .arr (((List.range i).map digT).map teV) (oF i), .arr [] .full, .arr [] .full]]) (fun j => 14 - j) 0 (Nat.zero_le _) (by
        obtain ⟨i, rfl⟩ : ∃ i', i = i' + 1 := ⟨i - 1, by omega⟩
        simp
        rfl) rfl ?_
      intro j hj
      obtain ⟨m1, m2⟩ := mul_bd (b := i) (i := j + 1) hb2 (by omega)
      rw [show (((j + 1 : Nat)) : Int) = (j : Int) + 1 by omega] at m1 m2
      have r1 : R64 ((i : Int) * ((j : Int) + 1)) := by unfold R64; omega
      have r2 : R64 ((i : Int) * ((j : Int) + 1) + i) := by unfold R64; omega
      have r3 : R64 ((i : Int) * ((j : Int) + 1) + i - 1) := by unfold R64; omega
      have d20 : (i : Int) * ((j : Int) + 1) + i - 1 ≤ 2000 := by omega
      by_cases hj2 : j < 14
      · have d15 : (j : Int) + 1 < 15 := by omega
        have ap2 : ∀ K, aApp 3 40 (.arr (((List.range i).map digN ++ (List.range j).map (digM i)).map nuV) .own) (.arr [.agg [I ((i : Int) * ((j : Int) + 1)), I i, .arr [.agg [I 3, I 0, I 0, I 0], .agg [I 5, I 0, I 0, I 0], .agg [I 4, I 0, I 0, I 0]] .no]] .no) K = (Fl.own.ap = true ∧ (((List.range i).map digN ++ (List.range j).map (digM i)).length + 1) * 40 ≤ 140737488355328 ∧ K (.arr (((List.range i).map digN ++ (List.range j).map (digM i) ++ [digM i j]).map nuV) .own)) := fun K => appNu _ _ [digM i j] rfl _ _ K
        have nl : ((List.range i).map digN ++ (List.range j).map (digM i)).length = i + j := by simp
        repeat (first | (with_reducible first | refine Ju.go ?_ | (refine Hd.go ?_; intro K Q hK hQ; simp only [List.getD_cons_zero, nod_imm, Try.underlying3, List.getD_cons_succ, e_mul, r1, true_and, e_add, r2, e_sub, r3, e_leq, d20, decide_true, e_lss, d15, e_gT, cond_true, j_one, e_cond, if_true, e_bd1, okE_I, Nat.zero_add, lv_cons, List.length_nil, Nat.reduceAdd, Nat.reduceLeDiff, cl_imm, spl_0, spl_n, e_bd0, spl_s, nod_agg, List.map_cons, nodL_imm, List.map_nil, bs3p, noV_full, nod_arr, nd_no, okE_arr, cl_arr, own0_imm, nodL_arr, bs1n, ap2, ap_own, nl]; subst hK hQ) | refine Jr.go ?_) | refine sd ?_)
        refine ⟨j + 1, by omega, ?_, rfl, by omega⟩
        have es : (List.range (j + 1)).map (digM i) = (List.range j).map (digM i) ++ [digM i j] := by rw [List.range_succ, List.map_append]; rfl
        rw [es, ← List.append_assoc]; rfl
      · have d15 : ¬ (j : Int) + 1 < 15 := by omega
        repeat (first | (with_reducible first | refine Ju.go ?_ | (refine Hd.go ?_; intro K Q hK hQ; simp only [List.getD_cons_zero, nod_imm, Try.underlying3, List.getD_cons_succ, e_mul, r1, true_and, e_add, r2, e_sub, r3, e_leq, d20, decide_true, e_lss, d15, decide_false, e_gT, cond_true, j_one, e_cond, Bool.false_eq_true, if_false, nod_arr, nd_own, nd_no, bs1a, nod_ptr, e_fa, Nat.zero_add, noV_full, e_sc0, Nat.reduceAdd, lv_cons, List.length_nil, Nat.reduceLeDiff, stV_arr, okE_arr, cl_arr, spl_s, spl_0, spl_n, e_lA0, dr_0, tk_s, tk_0, nod_agg, List.map_cons, nodL_imm, nodL_arr, nd_full, List.map_nil, e_bd1, okE_I, cl_imm, e_bd0, own0_imm]; subst hK hQ) | refine Jr.go ?_) | refine sd ?_)
        obtain rfl : j = 14 := by omega
        have eo : oF i = .own := by
          cases i with
          | zero => omega
          | succ i => rfl
        rw [eo]
        refine call_of (c20d hb1 hb2 hn0 hn1 _) ?_
        repeat (first | (with_reducible first | refine Ju.go ?_ | (refine Hd.go ?_; intro K Q hK hQ; simp only [nod_tup, List.map_cons, nod2_arr, nd_no, nod2_imm, List.map_nil, e_x20, e_x21, Int.cast_ofNat_Int, List.getD_cons_zero, List.getD_cons_succ, nod_imm, Try.underlying29, e_neq, decide_true, Bool.not_true, e_cond, Bool.false_eq_true, if_false, nod_arr, e_lenA, List.length_map]; subst hK hQ) | refine Jr.go ?_) | refine sd ?_)
        have hlW : (dgD i n).length ≤ 800 := by
          have := trW_len (digSm i hb2) (digAsk hb1 hb2 hn0 hn1)
          obtain ⟨x1, x2⟩ := dig_all hb1 hb2 hn0
          rw [trW_all x1] at this
          rw [← x2, List.length_map]; exact this
        refine loop_of (fun z : Nat × Int => 0 ≤ z.2 ∧ z.2 ≤ 2000 ∧ z.1 ≤ (dgD i n).length ∧ (dgD i n).take z.1 = dgD i z.2) (fun z => [I i, .arr ((dgD i n).map tb) .no, I z.1, I z.2]) (fun _ => _) (fun z => z.2.toNat) ((dgD i n).length, n) ⟨hn0, hn1, Nat.le_refl _, List.take_length⟩ rfl rfl ?_
        intro ⟨a, m⟩ ⟨m0, m20, ha, ht⟩
        dsimp only at m0 m20 ha ht ⊢
        generalize dgD i n = W at *
        by_cases hmb : m < (i : Int)
        · rw [dgD_lt hmb] at ht
          have hal : a = 1 := by
            have := congrArg List.length ht
            rw [List.length_take, Nat.min_eq_left ha] at this
            exact this
          subst hal
          have h0 : W.getD 0 default = dgT m := by
            cases W with
            | nil => simp at ha
            | cons x W => simp at ht; exact ht
          have w8 : IntKind.u8.wrap (97 + m) = 97 + m := wrap8 (by omega) (by omega)
          have edg : (⟨#[UInt8.ofNat (97 + m).toNat]⟩ : ByteArray) = dgT m := rfl
          have l1 : (0 : Int) < W.length := by omega
          have t0 : Int.toNat 0 = 0 := rfl
          repeat (first | (with_reducible first | refine Ju.go ?_ | (refine Hd.go ?_; intro K Q hK hQ; simp only [Int.cast_ofNat_Int, List.getD_cons_succ, List.getD_cons_zero, nod_imm, Try.underlying3, e_lss, hmb, decide_true, e_cond, if_true, e_eql, nod_arr, nd_no, Try.underlying5, Try.underlying9, e_add, e_cv8, w8, bs1U, noV_full, bt1, edg, ix_tb, l1, t0, h0, nod_cptr, e_ldc, e_teq, true_and, e_gT, cond_true, j_side, j_one]; subst hK hQ) | refine Jr.go ?_) | refine sd ?_)
          refine call_ofD (c15 _) ?_
          repeat (first | (with_reducible first | refine Ju.go ?_ | (refine Hd.go ?_; intro K Q hK hQ; simp only [nod_imm]; subst hK hQ) | refine Jr.go ?_) | refine sd ?_)
          exact end1A (fzI _)
        · have hmi : (i : Int) ≤ m := by omega
          obtain ⟨d1, d2, d3, d4⟩ := dig_div hb1 hmi
          have hz : (i : Int) ≠ 0 := by omega
          have rq : R64 (m.tdiv i) := by unfold R64; omega
          rw [dgD_ge hb1 hmi] at ht
          have hal : a = ((dgD i (m.tdiv i)) ++ (if m.tmod i = 0 then [] else [dgT 0, dgT (m.tmod i)])).length := by
            have := congrArg List.length ht
            rw [List.length_take, Nat.min_eq_left ha] at this
            exact this
          have hpos := dgD_pos hb1 _ (m.tdiv i) (Nat.lt_succ_self _) (by omega)
          by_cases he : m.tmod i = 0
          · rw [if_pos he, List.append_nil] at ht hal
            have he' : ¬ (0 : Int) < m.tmod i := by omega
            repeat (first | (with_reducible first | refine Ju.go ?_ | (refine Hd.go ?_; intro K Q hK hQ; simp only [List.getD_cons_succ, List.getD_cons_zero, nod_imm, Try.underlying3, e_lss, hmb, decide_false, e_cond, Bool.false_eq_true, if_false, e_rem, ne_eq, hz, not_false_eq_true, true_and, e_gtr, he', e_quo, rq]; subst hK hQ) | refine Jr.go ?_) | refine sd ?_)
            exact ⟨(a, m.tdiv i), ⟨by dsimp only; omega, by dsimp only; omega, ha, ht⟩, rfl, rfl, by dsimp only; omega⟩
          · rw [if_neg he] at ht hal
            rw [List.length_append] at hal
            have hal : a = (dgD i (m.tdiv i)).length + 2 := hal
            have he' : (0 : Int) < m.tmod i := by omega
            have hg : ∀ j, j < a → W.getD j default = (dgD i (m.tdiv i) ++ [dgT 0, dgT (m.tmod i)]).getD j default := fun j hj => by
              rw [← ht, List.getD_eq_getElem?_getD, List.getD_eq_getElem?_getD, List.getElem?_take_of_lt hj]
            have g1 : W.getD (a - 1) default = dgT (m.tmod i) := by
              rw [hg _ (by omega), List.getD_eq_getElem?_getD, List.getElem?_append_right (by omega), show a - 1 - (dgD i (m.tdiv i)).length = 1 by omega]; rfl
            have g2 : W.getD (a - 2) default = dgT 0 := by
              rw [hg _ (by omega), List.getD_eq_getElem?_getD, List.getElem?_append_right (by omega), show a - 2 - (dgD i (m.tdiv i)).length = 0 by omega]; rfl
            have e1 : ((a : Int) - 1).toNat = a - 1 := by omega
            have e2 : ((a : Int) - 2).toNat = a - 2 := by omega
            have l1 : (a : Int) - 1 < W.length := by omega
            have l2 : (a : Int) - 2 < W.length := by omega
            have l3 : (0 : Int) ≤ (a : Int) - 1 := by omega
            have l4 : (0 : Int) ≤ (a : Int) - 2 := by omega
            have l5 : ¬ (a : Int) < 3 := by omega
            have w8 : IntKind.u8.wrap (97 + m.tmod i) = 97 + m.tmod i := wrap8 (by omega) (by omega)
            have edg : (⟨#[UInt8.ofNat (97 + m.tmod i).toNat]⟩ : ByteArray) = dgT (m.tmod i) := rfl
            have ed0 : (⟨#[97]⟩ : ByteArray) = dgT 0 := rfl
            repeat (first | (with_reducible first | refine Ju.go ?_ | (refine Hd.go ?_; intro K Q hK hQ; simp only [List.getD_cons_succ, List.getD_cons_zero, nod_imm, Try.underlying3, e_lss, hmb, decide_false, e_cond, Bool.false_eq_true, if_false, e_rem, ne_eq, hz, not_false_eq_true, true_and, e_gtr, he', decide_true, if_true, l5, nod_arr, nd_no, Try.underlying5, Try.underlying9, e_add, e_cv8, w8, bs1U, noV_full, bt1, edg, e_sub, ix_tb, l3, l1, e1, g1, nod_cptr, e_ldc, e_tne, Bool.not_true, e_gF, cond_false, j_side, j_one, ed0, l4, l2, e2, g2, e_quo, rq]; subst hK hQ) | refine Jr.go ?_) | refine sd ?_)
            refine ⟨(a - 2, m.tdiv i), ⟨by dsimp only; omega, by dsimp only; omega, by dsimp only; omega, ?_⟩, ?_, rfl, by dsimp only; omega⟩
            · dsimp only
              have : (W.take a).take (a - 2) = (dgD i (m.tdiv i) ++ [dgT 0, dgT (m.tmod i)]).take (a - 2) := by rw [ht]
              rw [List.take_take, Nat.min_eq_left (by omega)] at this
              rw [this, List.take_append_of_le_length (by omega), List.take_of_length_le (by omega)]
            · dsimp only
              rw [show ((a - 2 : Nat) : Int) = (a : Int) - 2 by omega]
              rfl
end Go.Proofs.Ytgodfjbmblghnaa


set_option linter.unusedVariables false
set_option linter.unusedSimpArgs false
set_option linter.unnecessarySimpa false
set_option maxRecDepth 20000
set_option maxHeartbeats 2000000
namespace Go.Proofs.Ytgodfjbmblghnaa
open Go Go.Ab Go.Proofs
attribute [local congr] g_bin g_nilS g_nilP g_un g_ext g_bx g_fa g_ld g_st g_ix g_ixA g_slc g_mk g_bs g_bd g_nc g_cv g_len g_lenT g_app g_appB g_cpy g_mm g_call g_callG g_calm g_calmG g_range g_res g_pick g_cond g_loop g_Jv g_eqS g_eqP g_fd g_ixT g_ta g_lkp g_upd g_mkM g_appS g_inv g_callE g_callEG g_invE g_zr g_wr
open Go.ChangeShapes Go.WideShapes Go.ChangeAt Go.RowKit
theorem own : ownKnob Try.prog.godebug = none := by kernel_rfl
theorem laidOut : laidOutB Try.prog = true := by kernel_rfl
set_option maxRecDepth 100000 in
theorem lifted (os : Os) (started : os.Started) (H : Type) (enc : TypeId × Value → H) :
    ReturnsInHanded {} Try.checked os 7 .any (Rows.numeralDigitsSpec.pre6 enc Try.prog Try.f7 Rows.numeralDigitsRow.domain false) (Rows.numeralDigitsSpec.post enc Try.prog Try.f7 false true false false) := by
  refine returnsInHanded_of_change (C := Try.checked) own started (by kernel_rfl) Try.func7
    (ChangeSpec.witness6 (enc := enc) (C := Try.checked) false ⟨#[], #[.int .i64 0, .int .i64 0], []⟩ 8 (by kernel_rfl) (by kernel_rfl) (by kernel_rfl) (by kernel_rfl)) ?_
  intro W base args ds gs before hval0 hW hcnd _
  have hval : ∀ (j : Nat) t v, Try.f7.params[j]? = some t → args[j]? = some v → Value.okWide Try.prog W .any base t v := hval0
  have hW' := hW
  obtain ⟨p, q, hA0, hV, rfl, hfz, hnd⟩ := hW
  have hA : DataW.TrodAll enc Try.prog W 0 (fun _ => true) true Try.f7.params.toList args.toList ds p := hA0
  rw [Try.params7] at hA hval
  obtain ⟨v0, vs0, d0, ds0, p0, q0, hargs, rfl, rfl, h0, r0⟩ := trodAll_cons hA
  obtain ⟨v1, vs1, d1, ds1, p1, q1, rfl, rfl, rfl, h1, r1⟩ := trodAll_cons r0
  obtain ⟨rfl, rfl, rfl⟩ := trodAll_nil r1
  obtain rfl : args = #[v0, v1] := by cases args; simp_all
  obtain ⟨rfl, rfl⟩ := trodVars_none hV
  have lt0 : ∀ x ∈ p0, x.block < W.heap.size := by obtain ⟨m, hm⟩ := h0; exact DataW.trod_lt m _ _ _ hm
  obtain ⟨n0, e0, w0⟩ := in_int Try.underlying3 (hval 0 _ v0 rfl rfl) h0
  have lt1 : ∀ x ∈ p1, x.block < W.heap.size := by obtain ⟨m, hm⟩ := h1; exact DataW.trod_lt m _ _ _ hm
  obtain ⟨n1, e1, w1⟩ := in_int Try.underlying3 (hval 1 _ v1 rfl rfl) h1
  clear hA0 hval0
  refine (bridge (args := [I n0, I n1]) (ra := #[v0, v1]) (c7 n0 n1 [] ) rfl (by intro a ha; simp at ha; rcases ha with rfl | rfl <;> rfl) (fun i => ?_)).mono fun e W' ⟨he, bel⟩ => ?_
  · match i with
    | 0 => exact e0
    | 1 => exact e1
    | i + 2 => exact .junk _
  · subst he
    exact ⟨_, rfl, _, _, _, [], _, [], hW', trodAll_mk1 (shut_bool Try.underlying4 _), (trodAll_cons_mk (Below.trod laidOut (by kernel_rfl) (of_decide_eq_true (by kernel_rfl)) h0 bel lt0) (trodAll_cons_mk (Below.trod laidOut (by kernel_rfl) (of_decide_eq_true (by kernel_rfl)) h1 bel lt1) trodAll_mk0)), rfl, bel.frame _, fun h => by cases h⟩
theorem over : Rows.numeralDigitsRow.holds Try.pinned (OpenSpec.ofChange Rows.numeralDigitsSpec) :=
  OpenClaim.holds_of_wide 7 Try.f7 rfl rfl rfl rfl rfl rfl rfl ⟨rfl, rfl, rfl, rfl, rfl⟩ rfl rfl rfl rfl rfl (by kernel_rfl) Try.func7 (by kernel_rfl)
    (of_decide_eq_true (by kernel_rfl)) (by unfold Func.isWrapper; first | (rw [if_pos (by decide +kernel)]; kernel_rfl) | (rw [if_neg (by decide +kernel)]; exact ⟨rfl, rfl⟩))
    (fun os started H enc _ => lifted os started H enc)
theorem numeralDigits_holds : Rows.NumeralDigitsSaid := over
#print axioms numeralDigits_holds
end Go.Proofs.Ytgodfjbmblghnaa

