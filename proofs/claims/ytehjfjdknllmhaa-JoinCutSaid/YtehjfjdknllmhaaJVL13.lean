import Derived.Test.YtehjfjdknllmhaaAb23
import Derived.Test.YtehjfjdknllmhaaProg
import Derived.Test.YtehjfjdknllmhaaJV1
set_option linter.unusedVariables false
set_option maxRecDepth 20000
set_option maxHeartbeats 4000000
namespace Go.Proofs.Ytehjfjdknllmhaa
open Go Go.Ab Go.Proofs
/- declaim/declaimlaw07.JoinCut -/
def an13 : An := { imm := [], jn := [(2, [0, 1, 2, 3, 41]), (4, [0, 2, 3, 9, 10]), (5, [0, 2, 3, 63]), (8, [0, 2, 3, 77]), (10, [0, 13, 14]), (12, [14, 15, 16, 17, 18])], lp := [], loud := [53], ord := [] }
def vc13 (C : Cb) (a0 a1 a2 a3 : V) (H : Hp) (R : List V → Hp → Prop) : Prop :=
 Jn (fun (l1 : List V) (H2 : Hp) =>
 aCond (l1.getD 4 .junk).nod (
 C.call 18 [] H2 fun (v4 : V) (H5 : Hp) =>
 R [v4] H5) (
 Jn (fun (l6 : List V) (H7 : Hp) =>
 Jn (fun (l9 : List V) (H10 : Hp) =>
 aCond (l9.getD 3 .junk).nod (
 R [(B false)] H10) (
 C.call 41 [(l9.getD 0 .junk).nod.nod, (l9.getD 0 .junk).nod.nod, (l9.getD 1 .junk).nod.nod, (l9.getD 2 .junk).nod.nod] H10 fun (v12 : V) (H13 : Hp) =>
 C.aExt 0 v12.nod.nod fun (v14 : V) =>
 C.aExt 1 v12.nod.nod fun (v15 : V) =>
 Jn (fun (l16 : List V) (H17 : Hp) =>
 aCond (l16.getD 3 .junk).nod (
 C.call 18 [] H17 fun (v19 : V) (H20 : Hp) =>
 R [v19] H20) (
 Jn (fun (l21 : List V) (H22 : Hp) =>
 C.call 47 [(l21.getD 1 .junk).nod.nod] H22 fun (v24 : V) (H25 : Hp) =>
 C.aExt 0 v24.nod.nod fun (v26 : V) =>
 C.aExt 1 v24.nod.nod fun (v27 : V) =>
 Jn (fun (l28 : List V) (H29 : Hp) =>
 C.aBin (Try.prog.underlying 25) .eql (l28.getD 0 .junk).nod.nod (I 0) fun (v31 : V) =>
 Jv (fun (v32 : V) (H33 : Hp) =>
 Jv (fun (v36 : V) (H37 : Hp) =>
 Jv (fun (v40 : V) (H41 : Hp) =>
 Jv (fun (v44 : V) (H45 : Hp) =>
 R [v44] H45)
 (fun (R46 : V → Hp → Prop) =>
 aG v40.nod true (
 C.call 18 [] H41 fun (v47 : V) (H48 : Hp) =>
 R46 v47.nod H48) (
 R46 (B false) H41)))
 (fun (R42 : V → Hp → Prop) =>
 aG v36.nod true (
 C.aBin (Try.prog.underlying 3) .leq (l28.getD 1 .junk).nod.nod (l28.getD 3 .junk).nod.nod fun (v43 : V) =>
 R42 v43.nod H37) (
 R42 (B false) H37)))
 (fun (R38 : V → Hp → Prop) =>
 aG v32.nod true (
 C.aBin (Try.prog.underlying 25) .eql (l28.getD 4 .junk).nod.nod (I 0) fun (v39 : V) =>
 R38 v39.nod H33) (
 R38 (B false) H33)))
 (fun (R34 : V → Hp → Prop) =>
 aG v31.nod true (
 C.aBin (Try.prog.underlying 25) .eql (l28.getD 2 .junk).nod.nod (I 0) fun (v35 : V) =>
 R34 v35.nod H29) (
 R34 (B false) H29)))
 (fun (R30 : List V → Hp → Prop) =>
 C.call 47 [(l21.getD 0 .junk).nod.nod] H25 fun (v49 : V) (H50 : Hp) =>
 C.aExt 0 v49.nod.nod fun (v51 : V) =>
 C.aExt 1 v49.nod.nod fun (v52 : V) =>
 R30 [(l21.getD 2 .junk), v26, v27, v51, v52] H50))
 (fun (R23 : List V → Hp → Prop) =>
 C.call 46 [(l16.getD 0 .junk).nod.nod, (l16.getD 0 .junk).nod.nod, (l16.getD 1 .junk).nod.nod, (l16.getD 2 .junk).nod.nod] H17 fun (v53 : V) (H54 : Hp) =>
 C.aExt 0 v53.nod.nod fun (v55 : V) =>
 C.aExt 1 v53.nod.nod fun (v56 : V) =>
 R23 [(l16.getD 0 .junk), v55, v56] H54)))
 (fun (R18 : List V → Hp → Prop) =>
 C.aBin (Try.prog.underlying 25) .neq v15.nod.nod (I 0) fun (v57 : V) =>
 Jv (fun (v58 : V) (H59 : Hp) =>
 R18 [(l9.getD 0 .junk), (l9.getD 1 .junk), (l9.getD 2 .junk), v58] H59)
 (fun (R60 : V → Hp → Prop) =>
 aG v57.nod false (
 C.aBin (Try.prog.underlying 3) .neq v14.nod.nod (I 0) fun (v61 : V) =>
 R60 v61.nod H13) (
 R60 (B true) H13)))))
 (fun (R11 : List V → Hp → Prop) =>
 C.aBin (Try.prog.underlying 25) .neq (l6.getD 4 .junk).nod.nod (I 0) fun (v62 : V) =>
 Jv (fun (v63 : V) (H64 : Hp) =>
 R11 [(l6.getD 0 .junk), (l6.getD 1 .junk), (l6.getD 2 .junk), v63] H64)
 (fun (R65 : V → Hp → Prop) =>
 aG v62.nod false (
 C.call 21 [(l6.getD 3 .junk).nod.nod, (l6.getD 0 .junk).nod.nod] H7 fun (v66 : V) (H67 : Hp) =>
 C.aUn .not v66.nod fun (v68 : V) =>
 R65 v68.nod H67) (
 R65 (B true) H7))))
 (fun (R8 : List V → Hp → Prop) =>
 C.aSlc 1 (l1.getD 0 .junk).nod.nod none (some (l1.getD 1 .junk).nod.nod) none fun (v69 : V) =>
 C.aBin (Try.prog.underlying 3) .sub (l1.getD 1 .junk).nod.nod (l1.getD 2 .junk).nod.nod fun (v70 : V) =>
 C.aSlc 1 (l1.getD 0 .junk).nod.nod (some v70.nod) none none fun (v71 : V) =>
 C.call 46 [v69.nod, v71.nod, (l1.getD 2 .junk).nod.nod, (I 0)] H2 fun (v72 : V) (H73 : Hp) =>
 C.aExt 0 v72.nod.nod fun (v74 : V) =>
 C.aExt 1 v72.nod.nod fun (v75 : V) =>
 R8 [(l1.getD 0 .junk), (l1.getD 2 .junk), (l1.getD 3 .junk), v74, v75] H73)))
 (fun (R3 : List V → Hp → Prop) =>
 C.aLen a0.nod.nod fun (v76 : V) =>
 C.aBin (Try.prog.underlying 3) .gtr v76.nod (I 400) fun (v77 : V) =>
 Jv (fun (v78 : V) (H79 : Hp) =>
 Jv (fun (v84 : V) (H85 : Hp) =>
 Jv (fun (v88 : V) (H89 : Hp) =>
 Jv (fun (v92 : V) (H93 : Hp) =>
 R3 [a0, a1, a2, a3, v92] H93)
 (fun (R94 : V → Hp → Prop) =>
 aG v88.nod false (
 C.aLen a0.nod.nod fun (v95 : V) =>
 C.aBin (Try.prog.underlying 3) .gtr a1.nod.nod v95.nod fun (v96 : V) =>
 R94 v96.nod H89) (
 R94 (B true) H89)))
 (fun (R90 : V → Hp → Prop) =>
 aG v84.nod false (
 C.aBin (Try.prog.underlying 3) .lss a1.nod.nod a2.nod.nod fun (v91 : V) =>
 R90 v91.nod H85) (
 R90 (B true) H85)))
 (fun (R86 : V → Hp → Prop) =>
 aG v78.nod false (
 C.aBin (Try.prog.underlying 3) .lss a2.nod.nod (I 1) fun (v87 : V) =>
 R86 v87.nod H79) (
 R86 (B true) H79)))
 (fun (R80 : V → Hp → Prop) =>
 aG v77.nod false (
 C.call 42 [a0.nod.nod] H fun (v81 : V) (H82 : Hp) =>
 C.aBin (Try.prog.underlying 25) .neq v81.nod (I 0) fun (v83 : V) =>
 R80 v83.nod H82) (
 R80 (B true) H)))
theorem wf13 : (Nat.ble 4 Try.f13.ntmps && wfC an13 Try.f13.ntmps (Try.f13.body.getD .skip)) = true := by kernel_rfl
theorem tie13 (C : Cb) (a0 a1 a2 a3 : V) (H : Hp) (R : List V → Hp → Prop) : wpG Try.prog C an13 (Try.f13.body.getD .skip) (argF [a0, a1, a2, a3]) H (retG Try.prog C Try.f13 R) (fun _ _ _ => False) (retG Try.prog C Try.f13 R) = vc13 C a0 a1 a2 a3 H R := by kernel_rfl
theorem mk13 (a0 a1 a2 a3 : V) {H : Hp} {v : V} {H1 : Hp} (hd : v.Nd) (hn : H.length ≤ H1.length) (hb : H1 = H ∨ ∀ (b : Nat) (blk : Blk), H1[b]? = some blk → H[b]? = some blk ∨ BelB H1.length blk) (h : vc13 (real Try.prog) a0 a1 a2 a3 H (retF v H1)) : Ret Try.prog 13 [a0, a1, a2, a3] H v H1 :=
  ret_mk (an := an13) hm Try.call13 Try.func13 rfl wf13 hd hn hb (Eq.mpr (tie13 (real Try.prog) a0 a1 a2 a3 H (retF v H1)) h)
theorem mko13 (a0 a1 a2 a3 : V) {H : Hp} {xs : List V} {H1 : Hp} (hn : H.length ≤ H1.length) (hb : H1 = H ∨ ∀ (b : Nat) (blk : Blk), H1[b]? = some blk → H[b]? = some blk ∨ BelB H1.length blk) (h : vc13 (real Try.prog) a0 a1 a2 a3 H (retO xs H1)) : Ret Try.prog 13 [a0, a1, a2, a3] H (.arr xs .own) H1 :=
  ret_mko (an := an13) (t := 8) hm Try.call13 Try.func13 rfl wf13 rfl hn hb (Eq.mpr (tie13 (real Try.prog) a0 a1 a2 a3 H (retO xs H1)) h)

end Go.Proofs.Ytehjfjdknllmhaa
