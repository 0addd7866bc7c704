import Derived.Test.YtehjfjdknllmhaaAb23
import Derived.Test.YtehjfjdknllmhaaProg
import Derived.Test.YtehjfjdknllmhaaJV1
set_option linter.unusedVariables false
set_option maxRecDepth 20000
set_option maxHeartbeats 4000000
namespace Go.Proofs.Ytehjfjdknllmhaa
open Go Go.Ab Go.Proofs
/- declaim/declaimlaw07.JoinLevels -/
def an16 : An := { imm := [], jn := [(4, [0, 1, 5, 6]), (6, [0, 1, 5, 6, 7, 41]), (7, [0, 1, 5, 6, 7]), (9, [0, 1, 5, 6]), (13, [0, 1, 5, 6, 8, 9, 10, 11, 12]), (14, [0, 1, 5, 6, 8, 9, 10, 76])], lp := [(10, [0, 1, 5, 6, 8, 9])], loud := [], ord := [] }
def vc16 (C : Cb) (a0 a1 : V) (H : Hp) (R : List V → Hp → Prop) : Prop :=
 C.call 17 [a0.nod.nod] H fun (v1 : V) (H2 : Hp) =>
 C.aUn .not v1.nod fun (v3 : V) =>
 aCond v3.nod (
 C.call 18 [] H2 fun (v4 : V) (H5 : Hp) =>
 R [v4] H5) (
 Jn (fun (l6 : List V) (H7 : Hp) =>
 C.call 42 [(l6.getD 0 .junk).nod.nod] H7 fun (v9 : V) (H10 : Hp) =>
 Jn (fun (l11 : List V) (H12 : Hp) =>
 Jn (fun (l14 : List V) (H15 : Hp) =>
 LoopA (fun (l17 : List V) (H18 : Hp) (K19 : List V → Hp → Prop) =>
 C.aBin (Try.prog.underlying 3) .sub (l17.getD 5 .junk).nod.nod (l17.getD 4 .junk).nod.nod fun (v20 : V) =>
 C.aBin (Try.prog.underlying 3) .gtr v20.nod (I 1) fun (v21 : V) =>
 aCond v21.nod (
 C.aBin (Try.prog.underlying 3) .add (l17.getD 4 .junk).nod.nod (l17.getD 5 .junk).nod.nod fun (v22 : V) =>
 C.aBin (Try.prog.underlying 3) .quo v22.nod (I 2) fun (v23 : V) =>
 Jn (fun (l24 : List V) (H25 : Hp) =>
 Jn (fun (l27 : List V) (H28 : Hp) =>
 aCond (l27.getD 7 .junk).nod (
 K19 [(l27.getD 0 .junk), (l27.getD 1 .junk), (l27.getD 2 .junk), (l27.getD 3 .junk), (l27.getD 6 .junk).nod, (l27.getD 5 .junk)] H28) (
 K19 [(l27.getD 0 .junk), (l27.getD 1 .junk), (l27.getD 2 .junk), (l27.getD 3 .junk), (l27.getD 4 .junk), (l27.getD 6 .junk).nod] H28))
 (fun (R29 : List V → Hp → Prop) =>
 C.aBin (Try.prog.underlying 3) .eql (l24.getD 8 .junk).nod.nod (I 0) fun (v30 : V) =>
 Jv (fun (v31 : V) (H32 : Hp) =>
 R29 [(l24.getD 0 .junk), (l24.getD 1 .junk), (l24.getD 2 .junk), (l24.getD 3 .junk), (l24.getD 4 .junk), (l24.getD 5 .junk), (l24.getD 6 .junk), v31] H32)
 (fun (R33 : V → Hp → Prop) =>
 aG v30.nod true (
 C.call 51 [(l24.getD 7 .junk).nod.nod] H25 fun (v34 : V) (H35 : Hp) =>
 C.aBin (Try.prog.underlying 3) .leq v34.nod (l24.getD 1 .junk).nod.nod fun (v36 : V) =>
 R33 v36.nod H35) (
 R33 (B false) H25))))
 (fun (R26 : List V → Hp → Prop) =>
 C.call 54 [(l17.getD 0 .junk).nod.nod, v23.nod.nod, (I 1000)] H18 fun (v37 : V) (H38 : Hp) =>
 C.aExt 0 v37.nod.nod fun (v39 : V) =>
 C.aExt 1 v37.nod.nod fun (v40 : V) =>
 R26 [(l17.getD 0 .junk), (l17.getD 1 .junk), (l17.getD 2 .junk), (l17.getD 3 .junk), (l17.getD 4 .junk), (l17.getD 5 .junk), v23, v39, v40] H38)) (
 C.call 54 [(l17.getD 0 .junk).nod.nod, (l17.getD 4 .junk).nod.nod, (I 1000)] H18 fun (v41 : V) (H42 : Hp) =>
 C.aExt 0 v41.nod.nod fun (v43 : V) =>
 C.aExt 1 v41.nod.nod fun (v44 : V) =>
 C.aBin (Try.prog.underlying 25) .eql (l17.getD 3 .junk).nod.nod (I 0) fun (v45 : V) =>
 Jv (fun (v46 : V) (H47 : Hp) =>
 Jv (fun (v51 : V) (H52 : Hp) =>
 R [v51] H52)
 (fun (R53 : V → Hp → Prop) =>
 aG v46.nod true (
 C.call 18 [] H47 fun (v54 : V) (H55 : Hp) =>
 R53 v54.nod H55) (
 R53 (B false) H47)))
 (fun (R48 : V → Hp → Prop) =>
 aG v45.nod true (
 C.call 21 [(l17.getD 2 .junk).nod.nod, v43.nod.nod] H42 fun (v49 : V) (H50 : Hp) =>
 R48 v49.nod H50) (
 R48 (B false) H42))))
 [(l14.getD 0 .junk), (l14.getD 1 .junk), (l14.getD 2 .junk), (l14.getD 3 .junk), (I 0), (I 1000001)] H15)
 (fun (R16 : List V → Hp → Prop) =>
 C.aBin (Try.prog.underlying 25) .neq (l11.getD 4 .junk).nod.nod (I 0) fun (v56 : V) =>
 aCond v56.nod (
 C.aBin (Try.prog.underlying 25) .eql (l11.getD 3 .junk).nod.nod (l11.getD 4 .junk).nod.nod fun (v57 : V) =>
 Jv (fun (v58 : V) (H59 : Hp) =>
 Jv (fun (v63 : V) (H64 : Hp) =>
 R [v63] H64)
 (fun (R65 : V → Hp → Prop) =>
 aG v58.nod true (
 C.call 18 [] H59 fun (v66 : V) (H67 : Hp) =>
 R65 v66.nod H67) (
 R65 (B false) H59)))
 (fun (R60 : V → Hp → Prop) =>
 aG v57.nod true (
 C.aLen (l11.getD 2 .junk).nod.nod fun (v61 : V) =>
 C.aBin (Try.prog.underlying 3) .eql v61.nod (I 0) fun (v62 : V) =>
 R60 v62.nod H12) (
 R60 (B false) H12))) (
 R16 [(l11.getD 0 .junk), (l11.getD 1 .junk), (l11.getD 2 .junk), (l11.getD 3 .junk)] H12)))
 (fun (R13 : List V → Hp → Prop) =>
 Jn (fun (l68 : List V) (H69 : Hp) =>
 aCond (l68.getD 5 .junk).nod (
 R13 [(l68.getD 0 .junk), (l68.getD 1 .junk), (l68.getD 2 .junk), (l68.getD 3 .junk), (I 2)] H69) (
 R13 [(l68.getD 0 .junk), (l68.getD 1 .junk), (l68.getD 2 .junk), (l68.getD 3 .junk), (l68.getD 4 .junk)] H69))
 (fun (R70 : List V → Hp → Prop) =>
 C.aBin (Try.prog.underlying 25) .eql v9.nod.nod (I 0) fun (v71 : V) =>
 Jv (fun (v72 : V) (H73 : Hp) =>
 R70 [(l6.getD 0 .junk), (l6.getD 1 .junk), (l6.getD 2 .junk), (l6.getD 3 .junk), v9, v72] H73)
 (fun (R74 : V → Hp → Prop) =>
 aG v71.nod true (
 C.aLen (l6.getD 0 .junk).nod.nod fun (v75 : V) =>
 C.aBin (Try.prog.underlying 3) .eql v75.nod (I 0) fun (v76 : V) =>
 aG v76.nod false (
 C.aBin (Try.prog.underlying 3) .lss (l6.getD 1 .junk).nod.nod (I 0) fun (v77 : V) =>
 aG v77.nod.nod false (
 C.aBin (Try.prog.underlying 3) .gtr (l6.getD 1 .junk).nod.nod (I 32768) fun (v78 : V) =>
 R74 v78.nod.nod H10) (
 R74 (B true) H10)) (
 R74 (B true) H10)) (
 UD = UD ∧
 UD = UD ∧
 UD = UD ∧
 UD = UD ∧
 R74 (B false) H10)))))
 (fun (R8 : List V → Hp → Prop) =>
 C.call 55 [a0.nod.nod, a1.nod.nod] H2 fun (v79 : V) (H80 : Hp) =>
 C.aExt 0 v79.nod.nod fun (v81 : V) =>
 C.aExt 1 v79.nod.nod fun (v82 : V) =>
 R8 [a0, a1, v81, v82] H80))
theorem wf16 : (Nat.ble 2 Try.f16.ntmps && wfC an16 Try.f16.ntmps (Try.f16.body.getD .skip)) = true := by kernel_rfl
theorem tie16 (C : Cb) (a0 a1 : V) (H : Hp) (R : List V → Hp → Prop) : wpG Try.prog C an16 (Try.f16.body.getD .skip) (argF [a0, a1]) H (retG Try.prog C Try.f16 R) (fun _ _ _ => False) (retG Try.prog C Try.f16 R) = vc16 C a0 a1 H R := by kernel_rfl
theorem mk16 (a0 a1 : V) {H : Hp} {v : V} {H1 : Hp} (hd : v.Nd) (hn : H.length ≤ H1.length) (hb : H1 = H ∨ ∀ (b : Nat) (blk : Blk), H1[b]? = some blk → H[b]? = some blk ∨ BelB H1.length blk) (h : vc16 (real Try.prog) a0 a1 H (retF v H1)) : Ret Try.prog 16 [a0, a1] H v H1 :=
  ret_mk (an := an16) hm Try.call16 Try.func16 rfl wf16 hd hn hb (Eq.mpr (tie16 (real Try.prog) a0 a1 H (retF v H1)) h)
theorem mko16 (a0 a1 : V) {H : Hp} {xs : List V} {H1 : Hp} (hn : H.length ≤ H1.length) (hb : H1 = H ∨ ∀ (b : Nat) (blk : Blk), H1[b]? = some blk → H[b]? = some blk ∨ BelB H1.length blk) (h : vc16 (real Try.prog) a0 a1 H (retO xs H1)) : Ret Try.prog 16 [a0, a1] H (.arr xs .own) H1 :=
  ret_mko (an := an16) (t := 4) hm Try.call16 Try.func16 rfl wf16 rfl hn hb (Eq.mpr (tie16 (real Try.prog) a0 a1 H (retO xs H1)) h)

end Go.Proofs.Ytehjfjdknllmhaa
