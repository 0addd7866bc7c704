import Derived.Test.YtehjfjdknllmhaaAb23
import Derived.Test.YtehjfjdknllmhaaProg
import Derived.Test.YtehjfjdknllmhaaJV1
set_option linter.unusedVariables false
set_option maxRecDepth 20000
set_option maxHeartbeats 4000000
namespace Go.Proofs.Ytehjfjdknllmhaa
open Go Go.Ab Go.Proofs
/- declaim/declaimlaw07.JoinFades -/
def an3 : An := { imm := [], jn := [(2, [0, 1, 16]), (5, [0, 1, 5, 6, 7]), (6, [0, 1, 5, 6, 7, 40]), (7, [0, 1, 5, 6, 7]), (9, [0, 1, 5, 6]), (10, [0, 1, 5, 63]), (15, [0, 1, 5, 8, 99])], lp := [(12, [0, 1, 5, 8])], loud := [], ord := [] }
def vc3 (C : Cb) (a0 a1 : V) (H : Hp) (R : List V → Hp → Prop) : Prop :=
 Jn (fun (l1 : List V) (H2 : Hp) =>
 aCond (l1.getD 2 .junk).nod (
 C.call 18 [] H2 fun (v4 : V) (H5 : Hp) =>
 R [v4] H5) (
 C.call 19 [(l1.getD 0 .junk).nod.nod, (l1.getD 1 .junk).nod.nod] H2 fun (v6 : V) (H7 : Hp) =>
 C.aExt 0 v6.nod.nod fun (v8 : V) =>
 C.aExt 1 v6.nod.nod fun (v9 : V) =>
 Jn (fun (l10 : List V) (H11 : Hp) =>
 Jn (fun (l13 : List V) (H14 : Hp) =>
 Jn (fun (l16 : List V) (H17 : Hp) =>
 Jn (fun (l19 : List V) (H20 : Hp) =>
 aCond (l19.getD 3 .junk).nod (
 R [(B false)] H20) (
 LoopA (fun (l22 : List V) (H23 : Hp) (K24 : List V → Hp → Prop) =>
 C.aLen (l22.getD 2 .junk).nod.nod fun (v25 : V) =>
 C.aBin (Try.prog.underlying 3) .lss (l22.getD 3 .junk).nod.nod v25.nod fun (v26 : V) =>
 aCond v26.nod (
 Jn (fun (l27 : List V) (H28 : Hp) =>
 aCond (l27.getD 4 .junk).nod (
 R [(B false)] H28) (
 C.aBin (Try.prog.underlying 3) .add (l27.getD 3 .junk).nod.nod (I 1) fun (v30 : V) =>
 K24 [(l27.getD 0 .junk), (l27.getD 1 .junk), (l27.getD 2 .junk), v30] H28))
 (fun (R29 : List V → Hp → Prop) =>
 C.aIx 1 (l22.getD 2 .junk).nod.nod (l22.getD 3 .junk).nod.nod fun (v31 : V) =>
 C.aLd 1 false false v31.nod H23 fun (v32 : V) (H33 : Hp) =>
 C.aIx 1 (l22.getD 0 .junk).nod.nod (l22.getD 3 .junk).nod.nod fun (v34 : V) =>
 C.aLd 1 false false v34.nod H33 fun (v35 : V) (H36 : Hp) =>
 C.aIx 1 (l22.getD 1 .junk).nod.nod (l22.getD 3 .junk).nod.nod fun (v37 : V) =>
 C.aLd 1 false false v37.nod H36 fun (v38 : V) (H39 : Hp) =>
 C.aMM false [v35.nod, v38.nod] fun (v40 : V) =>
 C.aBin (Try.prog.underlying 3) .lss v32.nod v40.nod fun (v41 : V) =>
 Jv (fun (v42 : V) (H43 : Hp) =>
 R29 [(l22.getD 0 .junk), (l22.getD 1 .junk), (l22.getD 2 .junk), (l22.getD 3 .junk), v42] H43)
 (fun (R44 : V → Hp → Prop) =>
 aG v41.nod false (
 C.aIx 1 (l22.getD 2 .junk).nod.nod (l22.getD 3 .junk).nod.nod fun (v45 : V) =>
 C.aLd 1 false false v45.nod H39 fun (v46 : V) (H47 : Hp) =>
 C.aIx 1 (l22.getD 0 .junk).nod.nod (l22.getD 3 .junk).nod.nod fun (v48 : V) =>
 C.aLd 1 false false v48.nod H47 fun (v49 : V) (H50 : Hp) =>
 C.aIx 1 (l22.getD 1 .junk).nod.nod (l22.getD 3 .junk).nod.nod fun (v51 : V) =>
 C.aLd 1 false false v51.nod H50 fun (v52 : V) (H53 : Hp) =>
 C.aMM true [v49.nod, v52.nod] fun (v54 : V) =>
 C.aBin (Try.prog.underlying 3) .gtr v46.nod v54.nod fun (v55 : V) =>
 R44 v55.nod H53) (
 R44 (B true) H39)))) (
 C.call 18 [] H23 fun (v56 : V) (H57 : Hp) =>
 R [v56] H57))
 [(l19.getD 0 .junk), (l19.getD 1 .junk), (l19.getD 2 .junk), (I 0)] H20))
 (fun (R21 : List V → Hp → Prop) =>
 C.aBin (Try.prog.underlying 25) .neq (l16.getD 3 .junk).nod.nod (I 0) fun (v58 : V) =>
 Jv (fun (v59 : V) (H60 : Hp) =>
 R21 [(l16.getD 0 .junk), (l16.getD 1 .junk), (l16.getD 2 .junk), v59] H60)
 (fun (R61 : V → Hp → Prop) =>
 aG v58.nod false (
 C.call 22 [(l16.getD 0 .junk).nod.nod, (l16.getD 1 .junk).nod.nod] H17 fun (v62 : V) (H63 : Hp) =>
 C.call 21 [(l16.getD 2 .junk).nod.nod, v62.nod] H63 fun (v64 : V) (H65 : Hp) =>
 C.aUn .not v64.nod fun (v66 : V) =>
 R61 v66.nod H65) (
 R61 (B true) H17))))
 (fun (R18 : List V → Hp → Prop) =>
 C.aBin (Try.prog.underlying 25) .neq (l13.getD 4 .junk).nod.nod (I 0) fun (v67 : V) =>
 aCond v67.nod (
 C.aBin (Try.prog.underlying 25) .eql (l13.getD 3 .junk).nod.nod (l13.getD 4 .junk).nod.nod fun (v68 : V) =>
 Jv (fun (v69 : V) (H70 : Hp) =>
 Jv (fun (v74 : V) (H75 : Hp) =>
 R [v74] H75)
 (fun (R76 : V → Hp → Prop) =>
 aG v69.nod true (
 C.call 18 [] H70 fun (v77 : V) (H78 : Hp) =>
 R76 v77.nod H78) (
 R76 (B false) H70)))
 (fun (R71 : V → Hp → Prop) =>
 aG v68.nod true (
 C.aLen (l13.getD 2 .junk).nod.nod fun (v72 : V) =>
 C.aBin (Try.prog.underlying 3) .eql v72.nod (I 0) fun (v73 : V) =>
 R71 v73.nod H14) (
 R71 (B false) H14))) (
 R18 [(l13.getD 0 .junk), (l13.getD 1 .junk), (l13.getD 2 .junk), (l13.getD 3 .junk)] H14)))
 (fun (R15 : List V → Hp → Prop) =>
 Jn (fun (l79 : List V) (H80 : Hp) =>
 aCond (l79.getD 5 .junk).nod (
 R15 [(l79.getD 0 .junk), (l79.getD 1 .junk), (l79.getD 2 .junk), (l79.getD 3 .junk), (I 2)] H80) (
 R15 [(l79.getD 0 .junk), (l79.getD 1 .junk), (l79.getD 2 .junk), (l79.getD 3 .junk), (l79.getD 4 .junk)] H80))
 (fun (R81 : List V → Hp → Prop) =>
 C.aBin (Try.prog.underlying 25) .eql (l10.getD 4 .junk).nod.nod (I 0) fun (v82 : V) =>
 Jv (fun (v83 : V) (H84 : Hp) =>
 R81 [(l10.getD 0 .junk), (l10.getD 1 .junk), (l10.getD 2 .junk), (l10.getD 3 .junk), (l10.getD 4 .junk), v83] H84)
 (fun (R85 : V → Hp → Prop) =>
 aG v82.nod true (
 C.aLen (l10.getD 0 .junk).nod.nod fun (v86 : V) =>
 C.aLen (l10.getD 1 .junk).nod.nod fun (v87 : V) =>
 C.aBin (Try.prog.underlying 3) .neq v86.nod v87.nod fun (v88 : V) =>
 aG v88.nod false (
 C.aLen (l10.getD 0 .junk).nod.nod fun (v89 : V) =>
 C.aBin (Try.prog.underlying 3) .eql v89.nod (I 0) fun (v90 : V) =>
 R85 v90.nod.nod H11) (
 R85 (B true) H11)) (
 UD = UD ∧
 UD = UD ∧
 UD = UD ∧
 R85 (B false) H11)))))
 (fun (R12 : List V → Hp → Prop) =>
 C.call 20 [(l1.getD 0 .junk).nod.nod, (l1.getD 1 .junk).nod.nod] H7 fun (v91 : V) (H92 : Hp) =>
 R12 [(l1.getD 0 .junk), (l1.getD 1 .junk), v8, v9, v91] H92)))
 (fun (R3 : List V → Hp → Prop) =>
 C.call 17 [a0.nod.nod] H fun (v93 : V) (H94 : Hp) =>
 C.aUn .not v93.nod fun (v95 : V) =>
 Jv (fun (v96 : V) (H97 : Hp) =>
 R3 [a0, a1, v96] H97)
 (fun (R98 : V → Hp → Prop) =>
 aG v95.nod false (
 C.call 17 [a1.nod.nod] H94 fun (v99 : V) (H100 : Hp) =>
 C.aUn .not v99.nod fun (v101 : V) =>
 R98 v101.nod H100) (
 R98 (B true) H94)))
theorem wf3 : (Nat.ble 2 Try.f3.ntmps && wfC an3 Try.f3.ntmps (Try.f3.body.getD .skip)) = true := by kernel_rfl
theorem tie3 (C : Cb) (a0 a1 : V) (H : Hp) (R : List V → Hp → Prop) : wpG Try.prog C an3 (Try.f3.body.getD .skip) (argF [a0, a1]) H (retG Try.prog C Try.f3 R) (fun _ _ _ => False) (retG Try.prog C Try.f3 R) = vc3 C a0 a1 H R := by kernel_rfl
theorem mk3 (a0 a1 : V) {H : Hp} {v : V} {H1 : Hp} (hd : v.Nd) (hn : H.length ≤ H1.length) (hb : H1 = H ∨ ∀ (b : Nat) (blk : Blk), H1[b]? = some blk → H[b]? = some blk ∨ BelB H1.length blk) (h : vc3 (real Try.prog) a0 a1 H (retF v H1)) : Ret Try.prog 3 [a0, a1] H v H1 :=
  ret_mk (an := an3) hm Try.call3 Try.func3 rfl wf3 hd hn hb (Eq.mpr (tie3 (real Try.prog) a0 a1 H (retF v H1)) h)
theorem mko3 (a0 a1 : V) {H : Hp} {xs : List V} {H1 : Hp} (hn : H.length ≤ H1.length) (hb : H1 = H ∨ ∀ (b : Nat) (blk : Blk), H1[b]? = some blk → H[b]? = some blk ∨ BelB H1.length blk) (h : vc3 (real Try.prog) a0 a1 H (retO xs H1)) : Ret Try.prog 3 [a0, a1] H (.arr xs .own) H1 :=
  ret_mko (an := an3) (t := 4) hm Try.call3 Try.func3 rfl wf3 rfl hn hb (Eq.mpr (tie3 (real Try.prog) a0 a1 H (retO xs H1)) h)

end Go.Proofs.Ytehjfjdknllmhaa
