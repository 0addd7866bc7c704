import Derived.Test.YtehjfjdknllmhaaAb23
import Derived.Test.YtehjfjdknllmhaaProg
import Derived.Test.YtehjfjdknllmhaaJV1
set_option linter.unusedVariables false
set_option maxRecDepth 20000
set_option maxHeartbeats 4000000
namespace Go.Proofs.Ytehjfjdknllmhaa
open Go Go.Ab Go.Proofs
/- declaim/declaimlaw07.JoinGentle -/
def an9 : An := { imm := [], jn := [(2, [0, 1, 2, 51]), (4, [0, 1, 2, 7, 8]), (7, [0, 1, 2, 7, 82]), (10, [0, 1, 2, 9, 110]), (12, [0, 2, 9, 10, 11])], lp := [], loud := [95, 108], ord := [] }
def vc9 (C : Cb) (a0 a1 a2 : V) (H : Hp) (R : List V → Hp → Prop) : Prop :=
 Jn (fun (l1 : List V) (H2 : Hp) =>
 aCond (l1.getD 3 .junk).nod (
 C.call 18 [] H2 fun (v4 : V) (H5 : Hp) =>
 R [v4] H5) (
 Jn (fun (l6 : List V) (H7 : Hp) =>
 C.aLen (l6.getD 0 .junk).nod.nod fun (v9 : V) =>
 C.aBin (Try.prog.underlying 3) .eql (l6.getD 1 .junk).nod.nod v9.nod fun (v10 : V) =>
 aCond v10.nod (
 C.aBin (Try.prog.underlying 25) .eql (l6.getD 4 .junk).nod.nod (I 2) fun (v11 : V) =>
 Jv (fun (v12 : V) (H13 : Hp) =>
 R [v12] H13)
 (fun (R14 : V → Hp → Prop) =>
 aG v11.nod true (
 C.call 18 [] H7 fun (v15 : V) (H16 : Hp) =>
 R14 v15.nod H16) (
 R14 (B false) H7))) (
 Jn (fun (l17 : List V) (H18 : Hp) =>
 aCond (l17.getD 4 .junk).nod (
 R [(B false)] H18) (
 C.aFA 0 1 false (l17.getD 3 .junk).nod fun (v20 : V) =>
 C.aLd 1 false false v20.nod H18 fun (v21 : V) (H22 : Hp) =>
 Jn (fun (l23 : List V) (H24 : Hp) =>
 aCond (l23.getD 4 .junk).nod (
 R [(B false)] H24) (
 Jn (fun (l26 : List V) (H27 : Hp) =>
 C.aUn .neg (l26.getD 3 .junk).nod.nod fun (v29 : V) =>
 C.aMM true [(l26.getD 3 .junk).nod.nod, v29.nod] fun (v30 : V) =>
 C.aUn .neg (l26.getD 4 .junk).nod.nod fun (v31 : V) =>
 C.aMM true [(l26.getD 4 .junk).nod.nod, v31.nod] fun (v32 : V) =>
 C.aBin (Try.prog.underlying 3) .mul (I 2) (l26.getD 1 .junk).nod.nod fun (v33 : V) =>
 C.aBin (Try.prog.underlying 3) .add v33.nod (I 1) fun (v34 : V) =>
 C.aBin (Try.prog.underlying 3) .sub v32.nod.nod (I 1) fun (v35 : V) =>
 C.aBin (Try.prog.underlying 3) .mul v34.nod v35.nod fun (v36 : V) =>
 C.aBin (Try.prog.underlying 3) .leq v36.nod v30.nod.nod fun (v37 : V) =>
 Jv (fun (v38 : V) (H39 : Hp) =>
 Jv (fun (v44 : V) (H45 : Hp) =>
 R [v44] H45)
 (fun (R46 : V → Hp → Prop) =>
 aG v38.nod true (
 C.call 18 [] H39 fun (v47 : V) (H48 : Hp) =>
 R46 v47.nod H48) (
 R46 (B false) H39)))
 (fun (R40 : V → Hp → Prop) =>
 aG v37.nod true (
 C.aBin (Try.prog.underlying 3) .gtr v30.nod.nod (I 0) fun (v41 : V) =>
 aG v41.nod false (
 C.call 21 [(l26.getD 0 .junk).nod.nod, (l26.getD 2 .junk).nod.nod] H27 fun (v42 : V) (H43 : Hp) =>
 R40 v42.nod.nod H43) (
 R40 (B true) H27)) (
 UD = UD ∧
 UD = UD ∧
 UD = UD ∧
 R40 (B false) H27)))
 (fun (R28 : List V → Hp → Prop) =>
 C.aIx 1 (l23.getD 0 .junk).nod.nod (l23.getD 1 .junk).nod.nod fun (v49 : V) =>
 C.aLd 1 false false v49.nod H24 fun (v50 : V) (H51 : Hp) =>
 C.aBin (Try.prog.underlying 3) .sub (l23.getD 1 .junk).nod.nod (I 1) fun (v52 : V) =>
 C.aIx 1 (l23.getD 0 .junk).nod.nod v52.nod fun (v53 : V) =>
 C.aLd 1 false false v53.nod H51 fun (v54 : V) (H55 : Hp) =>
 C.aBin (Try.prog.underlying 3) .sub v50.nod v54.nod fun (v56 : V) =>
 C.aIx 1 (l23.getD 3 .junk).nod.nod (l23.getD 1 .junk).nod.nod fun (v57 : V) =>
 C.aLd 1 false false v57.nod H55 fun (v58 : V) (H59 : Hp) =>
 C.aBin (Try.prog.underlying 3) .sub (l23.getD 1 .junk).nod.nod (I 1) fun (v60 : V) =>
 C.aIx 1 (l23.getD 3 .junk).nod.nod v60.nod fun (v61 : V) =>
 C.aLd 1 false false v61.nod H59 fun (v62 : V) (H63 : Hp) =>
 C.aBin (Try.prog.underlying 3) .sub v58.nod v62.nod fun (v64 : V) =>
 R28 [(l23.getD 0 .junk), (l23.getD 2 .junk), (l23.getD 3 .junk), v56, v64] H63)))
 (fun (R25 : List V → Hp → Prop) =>
 C.aBin (Try.prog.underlying 3) .sub (l17.getD 1 .junk).nod.nod (l17.getD 2 .junk).nod.nod fun (v65 : V) =>
 C.aSlc 1 (l17.getD 0 .junk).nod.nod none (some v65.nod) none fun (v66 : V) =>
 C.aBin (Try.prog.underlying 3) .sub (l17.getD 1 .junk).nod.nod (l17.getD 2 .junk).nod.nod fun (v67 : V) =>
 C.aSlc 1 v21.nod.nod none (some v67.nod) none fun (v68 : V) =>
 C.call 21 [v66.nod, v68.nod] H22 fun (v69 : V) (H70 : Hp) =>
 C.aUn .not v69.nod fun (v71 : V) =>
 Jv (fun (v72 : V) (H73 : Hp) =>
 R25 [(l17.getD 0 .junk), (l17.getD 1 .junk), (l17.getD 2 .junk), v21, v72] H73)
 (fun (R74 : V → Hp → Prop) =>
 aG v71.nod false (
 C.aBin (Try.prog.underlying 3) .add (l17.getD 1 .junk).nod.nod (l17.getD 2 .junk).nod.nod fun (v75 : V) =>
 C.aSlc 1 (l17.getD 0 .junk).nod.nod (some v75.nod) none none fun (v76 : V) =>
 C.aBin (Try.prog.underlying 3) .add (l17.getD 1 .junk).nod.nod (l17.getD 2 .junk).nod.nod fun (v77 : V) =>
 C.aSlc 1 v21.nod.nod (some v77.nod) none none fun (v78 : V) =>
 C.call 21 [v76.nod, v78.nod] H70 fun (v79 : V) (H80 : Hp) =>
 C.aUn .not v79.nod fun (v81 : V) =>
 R74 v81.nod H80) (
 R74 (B true) H70)))))
 (fun (R19 : List V → Hp → Prop) =>
 C.aBin (Try.prog.underlying 25) .neq (l6.getD 4 .junk).nod.nod (I 0) fun (v82 : V) =>
 Jv (fun (v83 : V) (H84 : Hp) =>
 R19 [(l6.getD 0 .junk), (l6.getD 1 .junk), (l6.getD 2 .junk), (l6.getD 3 .junk), v83] H84)
 (fun (R85 : V → Hp → Prop) =>
 aG v82.nod false (
 C.aFA 0 1 false (l6.getD 3 .junk).nod fun (v86 : V) =>
 C.aLd 1 false false v86.nod H7 fun (v87 : V) (H88 : Hp) =>
 C.aLen v87.nod fun (v89 : V) =>
 C.aLen (l6.getD 0 .junk).nod.nod fun (v90 : V) =>
 C.aBin (Try.prog.underlying 3) .neq v89.nod v90.nod fun (v91 : V) =>
 R85 v91.nod H88) (
 R85 (B true) H7)))))
 (fun (R8 : List V → Hp → Prop) =>
 C.aLen (l1.getD 0 .junk).nod.nod fun (v92 : V) =>
 C.aBS 1 3 (I 0) [(0, (I 0)), (1, (l1.getD 1 .junk).nod.nod), (2, v92.nod)] fun (v93 : V) =>
 C.aBd [(V.arr [] .full), (V.arr [] .full)] [(0, 1, (l1.getD 0 .junk).nod.nod), (1, 1, v93.nod.nod)] fun (v94 : V) =>
 C.call 43 [(own0 v94 (l1.getD 0 .junk).nod).nod, (l1.getD 2 .junk).nod.nod] H2 fun (v95 : V) (H96 : Hp) =>
 C.aExt 0 v95.nod.nod fun (v97 : V) =>
 C.aExt 1 v95.nod.nod fun (v98 : V) =>
 C.aBx false 2 (V.agg [(V.arr [] .full), (V.arr [] .full)]) H96 fun (v99 : V) (H100 : Hp) =>
 C.aSt 2 v99.nod v97 H100 fun (v101 : V) (H102 : Hp) =>
 R8 [(l1.getD 0 .junk), (l1.getD 1 .junk), (l1.getD 2 .junk), v99, v98] H102)))
 (fun (R3 : List V → Hp → Prop) =>
 C.aLen a0.nod.nod fun (v103 : V) =>
 C.aBin (Try.prog.underlying 3) .gtr v103.nod (I 400) fun (v104 : V) =>
 Jv (fun (v105 : V) (H106 : Hp) =>
 Jv (fun (v111 : V) (H112 : Hp) =>
 Jv (fun (v115 : V) (H116 : Hp) =>
 Jv (fun (v119 : V) (H120 : Hp) =>
 Jv (fun (v123 : V) (H124 : Hp) =>
 Jv (fun (v128 : V) (H129 : Hp) =>
 Jv (fun (v133 : V) (H134 : Hp) =>
 R3 [a0, a1, a2, v133] H134)
 (fun (R135 : V → Hp → Prop) =>
 aG v128.nod false (
 C.aBin (Try.prog.underlying 3) .add a1.nod.nod a2.nod.nod fun (v136 : V) =>
 C.aLen a0.nod.nod fun (v137 : V) =>
 C.aBin (Try.prog.underlying 3) .gtr v136.nod v137.nod fun (v138 : V) =>
 R135 v138.nod H129) (
 R135 (B true) H129)))
 (fun (R130 : V → Hp → Prop) =>
 aG v123.nod false (
 C.aBin (Try.prog.underlying 3) .sub a1.nod.nod a2.nod.nod fun (v131 : V) =>
 C.aBin (Try.prog.underlying 3) .lss v131.nod (I 1) fun (v132 : V) =>
 R130 v132.nod H124) (
 R130 (B true) H124)))
 (fun (R125 : V → Hp → Prop) =>
 aG v119.nod false (
 C.aLen a0.nod.nod fun (v126 : V) =>
 C.aBin (Try.prog.underlying 3) .gtr a1.nod.nod v126.nod fun (v127 : V) =>
 R125 v127.nod H120) (
 R125 (B true) H120)))
 (fun (R121 : V → Hp → Prop) =>
 aG v115.nod false (
 C.aBin (Try.prog.underlying 3) .lss a1.nod.nod (I 0) fun (v122 : V) =>
 R121 v122.nod H116) (
 R121 (B true) H116)))
 (fun (R117 : V → Hp → Prop) =>
 aG v111.nod false (
 C.aBin (Try.prog.underlying 3) .gtr a2.nod.nod (I 100) fun (v118 : V) =>
 R117 v118.nod H112) (
 R117 (B true) H112)))
 (fun (R113 : V → Hp → Prop) =>
 aG v105.nod false (
 C.aBin (Try.prog.underlying 3) .lss a2.nod.nod (I 1) fun (v114 : V) =>
 R113 v114.nod H106) (
 R113 (B true) H106)))
 (fun (R107 : V → Hp → Prop) =>
 aG v104.nod false (
 C.call 42 [a0.nod.nod] H fun (v108 : V) (H109 : Hp) =>
 C.aBin (Try.prog.underlying 25) .neq v108.nod (I 0) fun (v110 : V) =>
 R107 v110.nod H109) (
 R107 (B true) H)))
theorem wf9 : (Nat.ble 3 Try.f9.ntmps && wfC an9 Try.f9.ntmps (Try.f9.body.getD .skip)) = true := by kernel_rfl
theorem tie9 (C : Cb) (a0 a1 a2 : V) (H : Hp) (R : List V → Hp → Prop) : wpG Try.prog C an9 (Try.f9.body.getD .skip) (argF [a0, a1, a2]) H (retG Try.prog C Try.f9 R) (fun _ _ _ => False) (retG Try.prog C Try.f9 R) = vc9 C a0 a1 a2 H R := by kernel_rfl
theorem mk9 (a0 a1 a2 : V) {H : Hp} {v : V} {H1 : Hp} (hd : v.Nd) (hn : H.length ≤ H1.length) (hb : H1 = H ∨ ∀ (b : Nat) (blk : Blk), H1[b]? = some blk → H[b]? = some blk ∨ BelB H1.length blk) (h : vc9 (real Try.prog) a0 a1 a2 H (retF v H1)) : Ret Try.prog 9 [a0, a1, a2] H v H1 :=
  ret_mk (an := an9) hm Try.call9 Try.func9 rfl wf9 hd hn hb (Eq.mpr (tie9 (real Try.prog) a0 a1 a2 H (retF v H1)) h)
theorem mko9 (a0 a1 a2 : V) {H : Hp} {xs : List V} {H1 : Hp} (hn : H.length ≤ H1.length) (hb : H1 = H ∨ ∀ (b : Nat) (blk : Blk), H1[b]? = some blk → H[b]? = some blk ∨ BelB H1.length blk) (h : vc9 (real Try.prog) a0 a1 a2 H (retO xs H1)) : Ret Try.prog 9 [a0, a1, a2] H (.arr xs .own) H1 :=
  ret_mko (an := an9) (t := 6) hm Try.call9 Try.func9 rfl wf9 rfl hn hb (Eq.mpr (tie9 (real Try.prog) a0 a1 a2 H (retO xs H1)) h)

end Go.Proofs.Ytehjfjdknllmhaa
