import Derived.Test.YtehjfjdknllmhaaAb23
import Derived.Test.YtehjfjdknllmhaaProg
import Derived.Test.YtehjfjdknllmhaaJV1
set_option linter.unusedVariables false
set_option maxRecDepth 20000
set_option maxHeartbeats 4000000
namespace Go.Proofs.Ytehjfjdknllmhaa
open Go Go.Ab Go.Proofs
/- declaim/declaimlaw07.JoinLags -/
def an8 : An := { imm := [], jn := [(2, [0, 1, 2, 3, 34]), (4, [0, 1, 2, 3, 9, 10, 11]), (6, [0, 1, 2, 3, 9, 10, 11, 12, 57]), (7, [0, 1, 2, 3, 9, 10, 11, 12]), (10, [0, 1, 2, 3, 9, 10, 11, 12, 14, 15]), (13, [0, 1, 2, 3, 9, 10, 11, 12, 13]), (15, [0, 1, 2, 3, 9, 10, 11, 13]), (16, [0, 1, 2, 3, 10, 102]), (20, [0, 1, 2, 3, 10, 16]), (22, [0, 1, 2, 3, 10, 16, 128])], lp := [(18, [0, 1, 2, 3, 10, 16])], loud := [], ord := [] }
def vc8 (C : Cb) (a0 a1 a2 a3 : V) (H : Hp) (R : List V → Hp → Prop) : Prop :=
 Jn (fun (l1 : List V) (H2 : Hp) =>
 aCond (l1.getD 4 .junk).nod (
 C.call 18 [] H2 fun (v4 : V) (H5 : Hp) =>
 R [v4] H5) (
 Jn (fun (l6 : List V) (H7 : Hp) =>
 C.call 20 [(l6.getD 0 .junk).nod.nod, (l6.getD 1 .junk).nod.nod] H7 fun (v9 : V) (H10 : Hp) =>
 Jn (fun (l11 : List V) (H12 : Hp) =>
 Jn (fun (l14 : List V) (H15 : Hp) =>
 Jn (fun (l17 : List V) (H18 : Hp) =>
 Jn (fun (l20 : List V) (H21 : Hp) =>
 aCond (l20.getD 5 .junk).nod (
 R [(B false)] H21) (
 LoopA (fun (l23 : List V) (H24 : Hp) (K25 : List V → Hp → Prop) =>
 Jn (fun (l26 : List V) (H27 : Hp) =>
 C.call 41 [(l26.getD 0 .junk).nod.nod, (l26.getD 1 .junk).nod.nod, (l26.getD 2 .junk).nod.nod, (l26.getD 5 .junk).nod.nod] H27 fun (v29 : V) (H30 : Hp) =>
 C.aExt 0 v29.nod.nod fun (v31 : V) =>
 C.aExt 1 v29.nod.nod fun (v32 : V) =>
 Jn (fun (l33 : List V) (H34 : Hp) =>
 aCond (l33.getD 6 .junk).nod (
 R [(B false)] H34) (
 C.aBin (Try.prog.underlying 3) .add (l33.getD 5 .junk).nod.nod (I 1) fun (v36 : V) =>
 K25 [(l33.getD 0 .junk), (l33.getD 1 .junk), (l33.getD 2 .junk), (l33.getD 3 .junk), (l33.getD 4 .junk), v36] H34))
 (fun (R35 : List V → Hp → Prop) =>
 C.aBin (Try.prog.underlying 25) .eql v32.nod.nod (I 0) fun (v37 : V) =>
 Jv (fun (v38 : V) (H39 : Hp) =>
 R35 [(l26.getD 0 .junk), (l26.getD 1 .junk), (l26.getD 2 .junk), (l26.getD 3 .junk), (l26.getD 4 .junk), (l26.getD 5 .junk), v38] H39)
 (fun (R40 : V → Hp → Prop) =>
 aG v37.nod true (
 C.aBin (Try.prog.underlying 3) .lss v31.nod.nod (l26.getD 4 .junk).nod.nod fun (v41 : V) =>
 R40 v41.nod H30) (
 R40 (B false) H30))))
 (fun (R28 : List V → Hp → Prop) =>
 C.aBin (Try.prog.underlying 3) .leq (l23.getD 5 .junk).nod.nod (l23.getD 3 .junk).nod.nod fun (v42 : V) =>
 Jv (fun (v43 : V) (H44 : Hp) =>
 aCond v43.nod (
 R28 [(l23.getD 0 .junk), (l23.getD 1 .junk), (l23.getD 2 .junk), (l23.getD 3 .junk), (l23.getD 4 .junk), (l23.getD 5 .junk)] H44) (
 C.call 18 [] H44 fun (v48 : V) (H49 : Hp) =>
 R [v48] H49))
 (fun (R45 : V → Hp → Prop) =>
 aG v42.nod true (
 C.aLen (l23.getD 1 .junk).nod.nod fun (v46 : V) =>
 C.aBin (Try.prog.underlying 3) .leq (l23.getD 5 .junk).nod.nod v46.nod fun (v47 : V) =>
 R45 v47.nod H24) (
 R45 (B false) H24))))
 [(l20.getD 0 .junk), (l20.getD 1 .junk), (l20.getD 2 .junk), (l20.getD 3 .junk), (l20.getD 4 .junk), (I 0)] H21))
 (fun (R22 : List V → Hp → Prop) =>
 C.aBin (Try.prog.underlying 25) .neq (l17.getD 6 .junk).nod.nod (I 0) fun (v50 : V) =>
 Jv (fun (v51 : V) (H52 : Hp) =>
 Jv (fun (v55 : V) (H56 : Hp) =>
 R22 [(l17.getD 0 .junk), (l17.getD 1 .junk), (l17.getD 2 .junk), (l17.getD 3 .junk), (l17.getD 5 .junk), v55] H56)
 (fun (R57 : V → Hp → Prop) =>
 aG v51.nod false (
 C.call 40 [(l17.getD 0 .junk).nod.nod, (l17.getD 1 .junk).nod.nod, (l17.getD 2 .junk).nod.nod, (l17.getD 7 .junk).nod.nod] H52 fun (v58 : V) (H59 : Hp) =>
 C.aBin (Try.prog.underlying 3) .neq (l17.getD 5 .junk).nod.nod v58.nod fun (v60 : V) =>
 R57 v60.nod H59) (
 R57 (B true) H52)))
 (fun (R53 : V → Hp → Prop) =>
 aG v50.nod false (
 C.aBin (Try.prog.underlying 3) .neq (l17.getD 4 .junk).nod.nod (l17.getD 7 .junk).nod.nod fun (v54 : V) =>
 R53 v54.nod H18) (
 R53 (B true) H18))))
 (fun (R19 : List V → Hp → Prop) =>
 C.aBin (Try.prog.underlying 25) .neq (l14.getD 7 .junk).nod.nod (I 0) fun (v61 : V) =>
 aCond v61.nod (
 C.aBin (Try.prog.underlying 25) .eql (l14.getD 6 .junk).nod.nod (l14.getD 7 .junk).nod.nod fun (v62 : V) =>
 Jv (fun (v63 : V) (H64 : Hp) =>
 Jv (fun (v67 : V) (H68 : Hp) =>
 Jv (fun (v71 : V) (H72 : Hp) =>
 R [v71] H72)
 (fun (R73 : V → Hp → Prop) =>
 aG v67.nod true (
 C.call 18 [] H68 fun (v74 : V) (H75 : Hp) =>
 R73 v74.nod H75) (
 R73 (B false) H68)))
 (fun (R69 : V → Hp → Prop) =>
 aG v63.nod true (
 C.aBin (Try.prog.underlying 3) .eql (l14.getD 5 .junk).nod.nod (I 0) fun (v70 : V) =>
 R69 v70.nod H64) (
 R69 (B false) H64)))
 (fun (R65 : V → Hp → Prop) =>
 aG v62.nod true (
 C.aBin (Try.prog.underlying 3) .eql (l14.getD 4 .junk).nod.nod (I 0) fun (v66 : V) =>
 R65 v66.nod H15) (
 R65 (B false) H15))) (
 R19 [(l14.getD 0 .junk), (l14.getD 1 .junk), (l14.getD 2 .junk), (l14.getD 3 .junk), (l14.getD 4 .junk), (l14.getD 5 .junk), (l14.getD 6 .junk), (l14.getD 8 .junk)] H15)))
 (fun (R16 : List V → Hp → Prop) =>
 C.aBin (Try.prog.underlying 25) .eql (l11.getD 7 .junk).nod.nod (I 0) fun (v76 : V) =>
 aCond v76.nod (
 Jn (fun (l77 : List V) (H78 : Hp) =>
 C.aUn .not (l77.getD 9 .junk).nod.nod fun (v80 : V) =>
 aCond v80.nod (
 R16 [(l77.getD 0 .junk), (l77.getD 1 .junk), (l77.getD 2 .junk), (l77.getD 3 .junk), (l77.getD 4 .junk), (l77.getD 5 .junk), (l77.getD 6 .junk), (I 5), (l77.getD 8 .junk).nod] H78) (
 R16 [(l77.getD 0 .junk), (l77.getD 1 .junk), (l77.getD 2 .junk), (l77.getD 3 .junk), (l77.getD 4 .junk), (l77.getD 5 .junk), (l77.getD 6 .junk), (l77.getD 7 .junk), (l77.getD 8 .junk).nod] H78))
 (fun (R79 : List V → Hp → Prop) =>
 C.call 39 [(l11.getD 0 .junk).nod.nod, (l11.getD 1 .junk).nod.nod, (l11.getD 2 .junk).nod.nod, (l11.getD 3 .junk).nod.nod] H12 fun (v81 : V) (H82 : Hp) =>
 C.aExt 0 v81.nod.nod fun (v83 : V) =>
 C.aExt 1 v81.nod.nod fun (v84 : V) =>
 R79 [(l11.getD 0 .junk), (l11.getD 1 .junk), (l11.getD 2 .junk), (l11.getD 3 .junk), (l11.getD 4 .junk), (l11.getD 5 .junk), (l11.getD 6 .junk), (l11.getD 7 .junk), v83, v84] H82)) (
 R16 [(l11.getD 0 .junk), (l11.getD 1 .junk), (l11.getD 2 .junk), (l11.getD 3 .junk), (l11.getD 4 .junk), (l11.getD 5 .junk), (l11.getD 6 .junk), (l11.getD 7 .junk), (I 0)] H12)))
 (fun (R13 : List V → Hp → Prop) =>
 Jn (fun (l85 : List V) (H86 : Hp) =>
 aCond (l85.getD 8 .junk).nod (
 R13 [(l85.getD 0 .junk), (l85.getD 1 .junk), (l85.getD 2 .junk), (l85.getD 3 .junk), (l85.getD 4 .junk), (l85.getD 5 .junk), (l85.getD 6 .junk), (I 2)] H86) (
 R13 [(l85.getD 0 .junk), (l85.getD 1 .junk), (l85.getD 2 .junk), (l85.getD 3 .junk), (l85.getD 4 .junk), (l85.getD 5 .junk), (l85.getD 6 .junk), (l85.getD 7 .junk)] H86))
 (fun (R87 : List V → Hp → Prop) =>
 C.aBin (Try.prog.underlying 25) .eql v9.nod.nod (I 0) fun (v88 : V) =>
 Jv (fun (v89 : V) (H90 : Hp) =>
 R87 [(l6.getD 0 .junk), (l6.getD 1 .junk), (l6.getD 2 .junk), (l6.getD 3 .junk), (l6.getD 4 .junk), (l6.getD 5 .junk), (l6.getD 6 .junk), v9, v89] H90)
 (fun (R91 : V → Hp → Prop) =>
 aG v88.nod true (
 C.aBin (Try.prog.underlying 3) .lss (l6.getD 2 .junk).nod.nod (I 1) fun (v92 : V) =>
 aG v92.nod false (
 C.aBin (Try.prog.underlying 3) .lss (l6.getD 3 .junk).nod.nod (I 0) fun (v93 : V) =>
 R91 v93.nod.nod H10) (
 R91 (B true) H10)) (
 UD = UD ∧
 UD = UD ∧
 R91 (B false) H10)))))
 (fun (R8 : List V → Hp → Prop) =>
 C.call 38 [(l1.getD 0 .junk).nod.nod, (l1.getD 1 .junk).nod.nod, (l1.getD 2 .junk).nod.nod, (l1.getD 3 .junk).nod.nod] H2 fun (v94 : V) (H95 : Hp) =>
 C.aExt 0 v94.nod.nod fun (v96 : V) =>
 C.aExt 1 v94.nod.nod fun (v97 : V) =>
 C.aExt 2 v94.nod.nod fun (v98 : V) =>
 R8 [(l1.getD 0 .junk), (l1.getD 1 .junk), (l1.getD 2 .junk), (l1.getD 3 .junk), v96, v97, v98] H95)))
 (fun (R3 : List V → Hp → Prop) =>
 C.call 17 [a0.nod.nod] H fun (v99 : V) (H100 : Hp) =>
 C.aUn .not v99.nod fun (v101 : V) =>
 Jv (fun (v102 : V) (H103 : Hp) =>
 Jv (fun (v108 : V) (H109 : Hp) =>
 R3 [a0, a1, a2, a3, v108] H109)
 (fun (R110 : V → Hp → Prop) =>
 aG v102.nod false (
 C.aBin (Try.prog.underlying 3) .gtr a2.nod.nod (I 60) fun (v111 : V) =>
 aG v111.nod true (
 C.aBin (Try.prog.underlying 3) .leq a2.nod.nod (I 400) fun (v112 : V) =>
 R110 v112.nod.nod H103) (
 R110 (B false) H103)) (
 UD = UD ∧
 UD = UD ∧
 R110 (B true) H103)))
 (fun (R104 : V → Hp → Prop) =>
 aG v101.nod false (
 C.call 17 [a1.nod.nod] H100 fun (v105 : V) (H106 : Hp) =>
 C.aUn .not v105.nod fun (v107 : V) =>
 R104 v107.nod H106) (
 R104 (B true) H100)))
theorem wf8 : (Nat.ble 4 Try.f8.ntmps && wfC an8 Try.f8.ntmps (Try.f8.body.getD .skip)) = true := by kernel_rfl
theorem tie8 (C : Cb) (a0 a1 a2 a3 : V) (H : Hp) (R : List V → Hp → Prop) : wpG Try.prog C an8 (Try.f8.body.getD .skip) (argF [a0, a1, a2, a3]) H (retG Try.prog C Try.f8 R) (fun _ _ _ => False) (retG Try.prog C Try.f8 R) = vc8 C a0 a1 a2 a3 H R := by kernel_rfl
theorem mk8 (a0 a1 a2 a3 : V) {H : Hp} {v : V} {H1 : Hp} (hd : v.Nd) (hn : H.length ≤ H1.length) (hb : H1 = H ∨ ∀ (b : Nat) (blk : Blk), H1[b]? = some blk → H[b]? = some blk ∨ BelB H1.length blk) (h : vc8 (real Try.prog) a0 a1 a2 a3 H (retF v H1)) : Ret Try.prog 8 [a0, a1, a2, a3] H v H1 :=
  ret_mk (an := an8) hm Try.call8 Try.func8 rfl wf8 hd hn hb (Eq.mpr (tie8 (real Try.prog) a0 a1 a2 a3 H (retF v H1)) h)
theorem mko8 (a0 a1 a2 a3 : V) {H : Hp} {xs : List V} {H1 : Hp} (hn : H.length ≤ H1.length) (hb : H1 = H ∨ ∀ (b : Nat) (blk : Blk), H1[b]? = some blk → H[b]? = some blk ∨ BelB H1.length blk) (h : vc8 (real Try.prog) a0 a1 a2 a3 H (retO xs H1)) : Ret Try.prog 8 [a0, a1, a2, a3] H (.arr xs .own) H1 :=
  ret_mko (an := an8) (t := 8) hm Try.call8 Try.func8 rfl wf8 rfl hn hb (Eq.mpr (tie8 (real Try.prog) a0 a1 a2 a3 H (retO xs H1)) h)

end Go.Proofs.Ytehjfjdknllmhaa
