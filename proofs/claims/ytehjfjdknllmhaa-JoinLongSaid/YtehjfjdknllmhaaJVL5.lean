import Derived.Test.YtehjfjdknllmhaaAb23
import Derived.Test.YtehjfjdknllmhaaProg
import Derived.Test.YtehjfjdknllmhaaJV1
set_option linter.unusedVariables false
set_option maxRecDepth 20000
set_option maxHeartbeats 4000000
namespace Go.Proofs.Ytehjfjdknllmhaa
open Go Go.Ab Go.Proofs
/- declaim/declaimlaw07.JoinLong -/
def an5 : An := { imm := [41], jn := [(2, [0, 1, 2, 3, 36]), (6, [0, 1, 2, 3, 9, 10]), (9, [0, 1, 2, 3, 9, 11, 12]), (11, [0, 1, 2, 3, 11, 12, 13, 14, 15]), (12, [11, 12, 13, 14, 15, 16]), (13, [13, 14, 16, 119]), (16, [13, 14, 16])], lp := [(5, [0, 1, 2, 3, 9, 10])], loud := [], ord := [] }
def vc5 (C : Cb) (a0 a1 a2 a3 : V) (H : Hp) (R : List V → Hp → Prop) : Prop :=
 Jn (fun (l1 : List V) (H2 : Hp) =>
 aCond (l1.getD 4 .junk).nod (
 C.call 18 [] H2 fun (v4 : V) (H5 : Hp) =>
 R [v4] H5) (
 C.aBin (Try.prog.underlying 3) .mul (l1.getD 0 .junk).nod.nod (l1.getD 1 .junk).nod.nod fun (v6 : V) =>
 C.aMk true (I 0) 8 v6.nod v6.nod H2 fun (v7 : V) (H8 : Hp) =>
 C.aBd [(V.arr [] .full), (V.arr [] .full)] [(0, 1, v7.nod)] fun (v9 : V) =>
 C.aBx false 2 (V.agg [(V.arr [] .full), (V.arr [] .full)]) H8 fun (v10 : V) (H11 : Hp) =>
 C.aSt 2 v10.nod (own0 v9 v7) H11 fun (v12 : V) (H13 : Hp) =>
 LoopA (fun (l14 : List V) (H15 : Hp) (K16 : List V → Hp → Prop) =>
 C.aBin (Try.prog.underlying 3) .leq (l14.getD 5 .junk).nod.nod (l14.getD 1 .junk).nod.nod fun (v17 : V) =>
 aCond v17.nod (
 Jn (fun (l18 : List V) (H19 : Hp) =>
 C.aBin (Try.prog.underlying 3) .add (l18.getD 5 .junk).nod.nod (I 1) fun (v21 : V) =>
 K16 [(l18.getD 0 .junk), (l18.getD 1 .junk), (l18.getD 2 .junk), (l18.getD 3 .junk), (l18.getD 4 .junk), v21] H19)
 (fun (R20 : List V → Hp → Prop) =>
 C.aFA 1 1 false (l14.getD 4 .junk).nod fun (v22 : V) =>
 C.aLd 1 false true v22.nod H15 fun (v23 : V) (H24 : Hp) =>
 C.aBin (Try.prog.underlying 3) .mul (l14.getD 5 .junk).nod.nod (l14.getD 0 .junk).nod.nod fun (v25 : V) =>
 C.aBS 1 1 (I 0) [(0, v25.nod)] fun (v26 : V) =>
 C.aApp 1 8 v23 v26.nod fun (v27 : V) =>
 C.aFA 1 1 false (l14.getD 4 .junk).nod fun (v28 : V) =>
 C.aSt 1 v28.nod v27 H24 fun (v29 : V) (H30 : Hp) =>
 R20 [(l14.getD 0 .junk), (l14.getD 1 .junk), (l14.getD 2 .junk), (l14.getD 3 .junk), (l14.getD 4 .junk), (l14.getD 5 .junk)] H30)) (
 Jn (fun (l31 : List V) (H32 : Hp) =>
 C.aLd 2 true false (l31.getD 4 .junk).nod H32 fun (v34 : V) (H35 : Hp) =>
 C.call 28 [v34.nod, (l31.getD 2 .junk).nod.nod, (l31.getD 3 .junk).nod.nod] H35 fun (v36 : V) (H37 : Hp) =>
 C.aExt 0 v36.nod.nod fun (v38 : V) =>
 C.aExt 1 v36.nod.nod fun (v39 : V) =>
 C.aBx false 2 (V.agg [(V.arr [] .full), (V.arr [] .full)]) H37 fun (v40 : V) (H41 : Hp) =>
 C.aSt 2 v40.nod v38 H41 fun (v42 : V) (H43 : Hp) =>
 Jn (fun (l44 : List V) (H45 : Hp) =>
 Jn (fun (l47 : List V) (H48 : Hp) =>
 Jn (fun (l50 : List V) (H51 : Hp) =>
 aCond (l50.getD 3 .junk).nod (
 R [(B false)] H51) (
 Jn (fun (l53 : List V) (H54 : Hp) =>
 C.aBin (Try.prog.underlying 25) .eql (l53.getD 1 .junk).nod.nod (I 0) fun (v56 : V) =>
 Jv (fun (v57 : V) (H58 : Hp) =>
 Jv (fun (v65 : V) (H66 : Hp) =>
 R [v65] H66)
 (fun (R67 : V → Hp → Prop) =>
 aG v57.nod true (
 C.call 18 [] H58 fun (v68 : V) (H69 : Hp) =>
 R67 v68.nod H69) (
 R67 (B false) H58)))
 (fun (R59 : V → Hp → Prop) =>
 aG v56.nod true (
 C.aFA 0 1 false (l53.getD 0 .junk).nod fun (v60 : V) =>
 C.aLd 1 false false v60.nod H54 fun (v61 : V) (H62 : Hp) =>
 C.aLen v61.nod fun (v63 : V) =>
 C.aBin (Try.prog.underlying 3) .eql v63.nod (l53.getD 2 .junk).nod.nod fun (v64 : V) =>
 R59 v64.nod H62) (
 R59 (B false) H54)))
 (fun (R55 : List V → Hp → Prop) =>
 C.aBin (Try.prog.underlying 3) .gtr (l50.getD 2 .junk).nod.nod (I 100000) fun (v70 : V) =>
 aCond v70.nod (
 C.aBin (Try.prog.underlying 25) .eql (l50.getD 1 .junk).nod.nod (I 4) fun (v71 : V) =>
 Jv (fun (v72 : V) (H73 : Hp) =>
 Jv (fun (v79 : V) (H80 : Hp) =>
 R [v79] H80)
 (fun (R81 : V → Hp → Prop) =>
 aG v72.nod true (
 C.call 18 [] H73 fun (v82 : V) (H83 : Hp) =>
 R81 v82.nod H83) (
 R81 (B false) H73)))
 (fun (R74 : V → Hp → Prop) =>
 aG v71.nod true (
 C.aLd 2 true false (l50.getD 0 .junk).nod H51 fun (v75 : V) (H76 : Hp) =>
 C.call 29 [v75.nod] H76 fun (v77 : V) (H78 : Hp) =>
 R74 v77.nod H78) (
 R74 (B false) H51))) (
 R55 [(l50.getD 0 .junk), (l50.getD 1 .junk), (l50.getD 2 .junk)] H51))))
 (fun (R52 : List V → Hp → Prop) =>
 C.aBin (Try.prog.underlying 3) .gtr (l47.getD 4 .junk).nod.nod (I 100000) fun (v84 : V) =>
 Jv (fun (v85 : V) (H86 : Hp) =>
 Jv (fun (v94 : V) (H95 : Hp) =>
 R52 [(l47.getD 2 .junk), (l47.getD 3 .junk), (l47.getD 5 .junk), v94] H95)
 (fun (R96 : V → Hp → Prop) =>
 aG v85.nod false (
 C.aBin (Try.prog.underlying 3) .leq (l47.getD 4 .junk).nod.nod (I 100000) fun (v97 : V) =>
 aG v97.nod true (
 C.aBin (Try.prog.underlying 25) .neq (l47.getD 1 .junk).nod.nod (I 0) fun (v98 : V) =>
 aG v98.nod false (
 C.aFA 0 1 false (l47.getD 0 .junk).nod fun (v99 : V) =>
 C.aLd 1 false false v99.nod H86 fun (v100 : V) (H101 : Hp) =>
 C.aLen v100.nod fun (v102 : V) =>
 C.aBin (Try.prog.underlying 3) .neq v102.nod (l47.getD 4 .junk).nod.nod fun (v103 : V) =>
 R96 v103.nod.nod.nod H101) (
 R96 (B true) H86)) (
 UD = UD ∧
 UD = UD ∧
 UD = UD ∧
 UD = UD ∧
 UD = UD ∧
 R96 (B false) H86)) (
 UD = UD ∧
 UD = UD ∧
 UD = UD ∧
 UD = UD ∧
 UD = UD ∧
 UD = UD ∧
 UD = UD ∧
 UD = UD ∧
 UD = UD ∧
 R96 (B true) H86)))
 (fun (R87 : V → Hp → Prop) =>
 aG v84.nod true (
 C.aBin (Try.prog.underlying 25) .neq (l47.getD 1 .junk).nod.nod (I 4) fun (v88 : V) =>
 aG v88.nod false (
 C.aLd 2 true false (l47.getD 0 .junk).nod H48 fun (v89 : V) (H90 : Hp) =>
 C.call 29 [v89.nod] H90 fun (v91 : V) (H92 : Hp) =>
 C.aUn .not v91.nod fun (v93 : V) =>
 R87 v93.nod.nod H92) (
 R87 (B true) H48)) (
 UD = UD ∧
 UD = UD ∧
 UD = UD ∧
 R87 (B false) H48))))
 (fun (R49 : List V → Hp → Prop) =>
 C.aBin (Try.prog.underlying 3) .mul (I 2) (l44.getD 0 .junk).nod.nod fun (v104 : V) =>
 C.aBin (Try.prog.underlying 3) .mul v104.nod (l44.getD 3 .junk).nod.nod fun (v105 : V) =>
 C.aBin (Try.prog.underlying 3) .add v105.nod (l44.getD 2 .junk).nod.nod fun (v106 : V) =>
 C.aBin (Try.prog.underlying 3) .mul (I 2) (l44.getD 2 .junk).nod.nod fun (v107 : V) =>
 C.aBin (Try.prog.underlying 3) .quo v106.nod v107.nod fun (v108 : V) =>
 C.aMM true [(I 1), v108.nod] fun (v109 : V) =>
 C.aBin (Try.prog.underlying 3) .mul (l44.getD 1 .junk).nod.nod v109.nod fun (v110 : V) =>
 R49 [(l44.getD 4 .junk), (l44.getD 5 .junk), (l44.getD 6 .junk), (l44.getD 7 .junk), (l44.getD 8 .junk), v110] H45))
 (fun (R46 : List V → Hp → Prop) =>
 C.aBin (Try.prog.underlying 3) .mul (I 2) (l31.getD 1 .junk).nod.nod fun (v111 : V) =>
 C.aBin (Try.prog.underlying 3) .mul v111.nod (l31.getD 2 .junk).nod.nod fun (v112 : V) =>
 C.aBin (Try.prog.underlying 3) .add v112.nod (l31.getD 3 .junk).nod.nod fun (v113 : V) =>
 C.aBin (Try.prog.underlying 3) .mul (I 2) (l31.getD 3 .junk).nod.nod fun (v114 : V) =>
 C.aBin (Try.prog.underlying 3) .quo v113.nod v114.nod fun (v115 : V) =>
 C.aMM true [(I 1), v115.nod] fun (v116 : V) =>
 C.aBin (Try.prog.underlying 3) .mul (l31.getD 0 .junk).nod.nod v116.nod fun (v117 : V) =>
 R46 [(l31.getD 0 .junk), (l31.getD 1 .junk), (l31.getD 2 .junk), (l31.getD 3 .junk), (l31.getD 5 .junk), (l31.getD 6 .junk), v40, v39, v117] H43))
 (fun (R33 : List V → Hp → Prop) =>
 C.aLd 2 true false (l14.getD 4 .junk).nod H15 fun (v118 : V) (H119 : Hp) =>
 C.call 27 [v118.nod, (l14.getD 2 .junk).nod.nod, (l14.getD 3 .junk).nod.nod] H119 fun (v120 : V) (H121 : Hp) =>
 C.aExt 0 v120.nod.nod fun (v122 : V) =>
 C.aExt 1 v120.nod.nod fun (v123 : V) =>
 C.aBx false 2 (V.agg [(V.arr [] .full), (V.arr [] .full)]) H121 fun (v124 : V) (H125 : Hp) =>
 C.aSt 2 v124.nod v122 H125 fun (v126 : V) (H127 : Hp) =>
 R33 [(l14.getD 0 .junk), (l14.getD 1 .junk), (l14.getD 2 .junk), (l14.getD 3 .junk), (l14.getD 4 .junk), v124, v123] H127)))
 [(l1.getD 0 .junk), (l1.getD 1 .junk), (l1.getD 2 .junk), (l1.getD 3 .junk), v10, (I 0)] H13))
 (fun (R3 : List V → Hp → Prop) =>
 C.aBin (Try.prog.underlying 3) .lss a0.nod.nod (I 1) fun (v128 : V) =>
 Jv (fun (v129 : V) (H130 : Hp) =>
 Jv (fun (v133 : V) (H134 : Hp) =>
 Jv (fun (v137 : V) (H138 : Hp) =>
 Jv (fun (v141 : V) (H142 : Hp) =>
 R3 [a0, a1, a2, a3, v141] H142)
 (fun (R143 : V → Hp → Prop) =>
 aG v137.nod false (
 C.call 26 [a2.nod.nod, a3.nod.nod] H138 fun (v144 : V) (H145 : Hp) =>
 C.aUn .not v144.nod fun (v146 : V) =>
 R143 v146.nod H145) (
 R143 (B true) H138)))
 (fun (R139 : V → Hp → Prop) =>
 aG v133.nod false (
 C.aBin (Try.prog.underlying 3) .gtr a1.nod.nod (I 1000) fun (v140 : V) =>
 R139 v140.nod H134) (
 R139 (B true) H134)))
 (fun (R135 : V → Hp → Prop) =>
 aG v129.nod false (
 C.aBin (Try.prog.underlying 3) .lss a1.nod.nod (I 1) fun (v136 : V) =>
 R135 v136.nod H130) (
 R135 (B true) H130)))
 (fun (R131 : V → Hp → Prop) =>
 aG v128.nod false (
 C.aBin (Try.prog.underlying 3) .gtr a0.nod.nod (I 100) fun (v132 : V) =>
 R131 v132.nod H) (
 R131 (B true) H)))
theorem wf5 : (Nat.ble 4 Try.f5.ntmps && wfC an5 Try.f5.ntmps (Try.f5.body.getD .skip)) = true := by kernel_rfl
theorem tie5 (C : Cb) (a0 a1 a2 a3 : V) (H : Hp) (R : List V → Hp → Prop) : wpG Try.prog C an5 (Try.f5.body.getD .skip) (argF [a0, a1, a2, a3]) H (retG Try.prog C Try.f5 R) (fun _ _ _ => False) (retG Try.prog C Try.f5 R) = vc5 C a0 a1 a2 a3 H R := by kernel_rfl
theorem mk5 (a0 a1 a2 a3 : V) {H : Hp} {v : V} {H1 : Hp} (hd : v.Nd) (hn : H.length ≤ H1.length) (hb : H1 = H ∨ ∀ (b : Nat) (blk : Blk), H1[b]? = some blk → H[b]? = some blk ∨ BelB H1.length blk) (h : vc5 (real Try.prog) a0 a1 a2 a3 H (retF v H1)) : Ret Try.prog 5 [a0, a1, a2, a3] H v H1 :=
  ret_mk (an := an5) hm Try.call5 Try.func5 rfl wf5 hd hn hb (Eq.mpr (tie5 (real Try.prog) a0 a1 a2 a3 H (retF v H1)) h)
theorem mko5 (a0 a1 a2 a3 : V) {H : Hp} {xs : List V} {H1 : Hp} (hn : H.length ≤ H1.length) (hb : H1 = H ∨ ∀ (b : Nat) (blk : Blk), H1[b]? = some blk → H[b]? = some blk ∨ BelB H1.length blk) (h : vc5 (real Try.prog) a0 a1 a2 a3 H (retO xs H1)) : Ret Try.prog 5 [a0, a1, a2, a3] H (.arr xs .own) H1 :=
  ret_mko (an := an5) (t := 8) hm Try.call5 Try.func5 rfl wf5 rfl hn hb (Eq.mpr (tie5 (real Try.prog) a0 a1 a2 a3 H (retO xs H1)) h)

end Go.Proofs.Ytehjfjdknllmhaa
