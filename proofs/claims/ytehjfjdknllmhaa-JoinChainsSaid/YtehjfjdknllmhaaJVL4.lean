import Derived.Test.YtehjfjdknllmhaaAb23
import Derived.Test.YtehjfjdknllmhaaProg
import Derived.Test.YtehjfjdknllmhaaJV1
set_option linter.unusedVariables false
set_option maxRecDepth 20000
set_option maxHeartbeats 4000000
namespace Go.Proofs.Ytehjfjdknllmhaa
open Go Go.Ab Go.Proofs
/- declaim/declaimlaw07.JoinChains -/
def an4 : An := { imm := [], jn := [(2, [0, 1, 2, 28]), (4, [0, 1, 2, 7, 8]), (6, [0, 1, 2, 7, 8, 9]), (8, [0, 1, 2, 7, 8, 9, 71]), (10, [0, 1, 2, 7, 8, 9]), (12, [0, 1, 2, 7, 8, 10, 11, 12]), (14, [0, 1, 2, 8, 10, 11, 12]), (16, [0, 1, 2, 10, 11, 12])], lp := [(5, [0, 1, 2, 7, 8, 9])], loud := [], ord := [] }
def vc4 (C : Cb) (a0 a1 a2 : V) (H : Hp) (R : List V → Hp → Prop) : Prop :=
 Jn (fun (l1 : List V) (H2 : Hp) =>
 aCond (l1.getD 3 .junk).nod (
 C.call 18 [] H2 fun (v4 : V) (H5 : Hp) =>
 R [v4] H5) (
 Jn (fun (l6 : List V) (H7 : Hp) =>
 LoopA (fun (l9 : List V) (H10 : Hp) (K11 : List V → Hp → Prop) =>
 C.aLen (l9.getD 2 .junk).nod.nod fun (v12 : V) =>
 C.aBin (Try.prog.underlying 3) .lss (l9.getD 5 .junk).nod.nod v12.nod fun (v13 : V) =>
 aCond v13.nod (
 Jn (fun (l14 : List V) (H15 : Hp) =>
 C.aBin (Try.prog.underlying 3) .add (l14.getD 5 .junk).nod.nod (I 1) fun (v17 : V) =>
 K11 [(l14.getD 0 .junk), (l14.getD 1 .junk), (l14.getD 2 .junk), (l14.getD 3 .junk), (l14.getD 4 .junk), v17] H15)
 (fun (R16 : List V → Hp → Prop) =>
 Jn (fun (l18 : List V) (H19 : Hp) =>
 aCond (l18.getD 6 .junk).nod (
 C.call 18 [] H19 fun (v21 : V) (H22 : Hp) =>
 R [v21] H22) (
 Jn (fun (l23 : List V) (H24 : Hp) =>
 Jv (fun (v26 : V) (H27 : Hp) =>
 R16 [(l23.getD 0 .junk), (l23.getD 1 .junk), (l23.getD 2 .junk), (l23.getD 3 .junk), v26, (l23.getD 5 .junk)] H27)
 (fun (R28 : V → Hp → Prop) =>
 aG (l23.getD 4 .junk).nod.nod true (
 C.aIx 1 (l23.getD 2 .junk).nod.nod (l23.getD 5 .junk).nod.nod fun (v29 : V) =>
 C.aLd 1 false false v29.nod H24 fun (v30 : V) (H31 : Hp) =>
 C.call 23 [v30.nod] H31 fun (v32 : V) (H33 : Hp) =>
 R28 v32.nod H33) (
 R28 (B false) H24)))
 (fun (R25 : List V → Hp → Prop) =>
 Jv (fun (v34 : V) (H35 : Hp) =>
 R25 [(l18.getD 0 .junk), (l18.getD 1 .junk), (l18.getD 2 .junk), v34, (l18.getD 4 .junk), (l18.getD 5 .junk)] H35)
 (fun (R36 : V → Hp → Prop) =>
 aG (l18.getD 3 .junk).nod.nod false (
 C.aIx 1 (l18.getD 2 .junk).nod.nod (l18.getD 5 .junk).nod.nod fun (v37 : V) =>
 C.aLd 1 false false v37.nod H19 fun (v38 : V) (H39 : Hp) =>
 C.aLen v38.nod fun (v40 : V) =>
 C.aBin (Try.prog.underlying 3) .gtr v40.nod (I 100000) fun (v41 : V) =>
 R36 v41.nod H39) (
 R36 (B true) H19)))))
 (fun (R20 : List V → Hp → Prop) =>
 C.aIx 1 (l9.getD 2 .junk).nod.nod (l9.getD 5 .junk).nod.nod fun (v42 : V) =>
 C.aLd 1 false false v42.nod H10 fun (v43 : V) (H44 : Hp) =>
 C.aLen v43.nod fun (v45 : V) =>
 C.aBin (Try.prog.underlying 3) .gtr v45.nod (I 60) fun (v46 : V) =>
 Jv (fun (v47 : V) (H48 : Hp) =>
 Jv (fun (v55 : V) (H56 : Hp) =>
 R20 [(l9.getD 0 .junk), (l9.getD 1 .junk), (l9.getD 2 .junk), (l9.getD 3 .junk), (l9.getD 4 .junk), (l9.getD 5 .junk), v55] H56)
 (fun (R57 : V → Hp → Prop) =>
 aG v47.nod false (
 C.aIx 1 (l9.getD 2 .junk).nod.nod (l9.getD 5 .junk).nod.nod fun (v58 : V) =>
 C.aLd 1 false false v58.nod H48 fun (v59 : V) (H60 : Hp) =>
 C.aLen v59.nod fun (v61 : V) =>
 C.aBin (Try.prog.underlying 3) .gtr v61.nod (I 110000) fun (v62 : V) =>
 R57 v62.nod H60) (
 R57 (B true) H48)))
 (fun (R49 : V → Hp → Prop) =>
 aG v46.nod true (
 C.aIx 1 (l9.getD 2 .junk).nod.nod (l9.getD 5 .junk).nod.nod fun (v50 : V) =>
 C.aLd 1 false false v50.nod H44 fun (v51 : V) (H52 : Hp) =>
 C.aLen v51.nod fun (v53 : V) =>
 C.aBin (Try.prog.underlying 3) .leq v53.nod (I 100000) fun (v54 : V) =>
 R49 v54.nod H52) (
 R49 (B false) H44))))) (
 Jn (fun (l63 : List V) (H64 : Hp) =>
 Jn (fun (l66 : List V) (H67 : Hp) =>
 Jn (fun (l69 : List V) (H70 : Hp) =>
 C.call 25 [(l69.getD 0 .junk).nod.nod, (l69.getD 1 .junk).nod.nod, (l69.getD 2 .junk).nod.nod] H70 fun (v72 : V) (H73 : Hp) =>
 C.aExt 0 v72.nod.nod fun (v74 : V) =>
 C.aExt 1 v72.nod.nod fun (v75 : V) =>
 C.aExt 2 v72.nod.nod fun (v76 : V) =>
 C.aBin (Try.prog.underlying 25) .eql (l69.getD 5 .junk).nod.nod v76.nod.nod fun (v77 : V) =>
 Jv (fun (v78 : V) (H79 : Hp) =>
 Jv (fun (v83 : V) (H84 : Hp) =>
 Jv (fun (v88 : V) (H89 : Hp) =>
 R [v88] H89)
 (fun (R90 : V → Hp → Prop) =>
 aG v83.nod true (
 C.call 18 [] H84 fun (v91 : V) (H92 : Hp) =>
 R90 v91.nod H92) (
 R90 (B false) H84)))
 (fun (R85 : V → Hp → Prop) =>
 aG v78.nod true (
 C.call 21 [(l69.getD 4 .junk).nod.nod, v75.nod.nod] H79 fun (v86 : V) (H87 : Hp) =>
 R85 v86.nod H87) (
 R85 (B false) H79)))
 (fun (R80 : V → Hp → Prop) =>
 aG v77.nod true (
 C.call 21 [(l69.getD 3 .junk).nod.nod, v74.nod.nod] H73 fun (v81 : V) (H82 : Hp) =>
 R80 v81.nod H82) (
 R80 (B false) H73)))
 (fun (R71 : List V → Hp → Prop) =>
 C.aUn .not (l66.getD 3 .junk).nod.nod fun (v93 : V) =>
 aCond v93.nod (
 C.aBin (Try.prog.underlying 25) .eql (l66.getD 6 .junk).nod.nod (I 2) fun (v94 : V) =>
 Jv (fun (v95 : V) (H96 : Hp) =>
 Jv (fun (v102 : V) (H103 : Hp) =>
 R [v102] H103)
 (fun (R104 : V → Hp → Prop) =>
 aG v95.nod true (
 C.call 18 [] H96 fun (v105 : V) (H106 : Hp) =>
 R104 v105.nod H106) (
 R104 (B false) H96)))
 (fun (R97 : V → Hp → Prop) =>
 aG v94.nod true (
 C.aLen (l66.getD 4 .junk).nod.nod fun (v98 : V) =>
 C.aLen (l66.getD 5 .junk).nod.nod fun (v99 : V) =>
 C.aBin (Try.prog.underlying 3) .add v98.nod v99.nod fun (v100 : V) =>
 C.aBin (Try.prog.underlying 3) .eql v100.nod (I 0) fun (v101 : V) =>
 R97 v101.nod H67) (
 R97 (B false) H67))) (
 R71 [(l66.getD 0 .junk), (l66.getD 1 .junk), (l66.getD 2 .junk), (l66.getD 4 .junk), (l66.getD 5 .junk), (l66.getD 6 .junk)] H67)))
 (fun (R68 : List V → Hp → Prop) =>
 aCond (l63.getD 3 .junk).nod.nod (
 C.aBin (Try.prog.underlying 25) .eql (l63.getD 7 .junk).nod.nod (I 4) fun (v107 : V) =>
 Jv (fun (v108 : V) (H109 : Hp) =>
 Jv (fun (v115 : V) (H116 : Hp) =>
 R [v115] H116)
 (fun (R117 : V → Hp → Prop) =>
 aG v108.nod true (
 C.call 18 [] H109 fun (v118 : V) (H119 : Hp) =>
 R117 v118.nod H119) (
 R117 (B false) H109)))
 (fun (R110 : V → Hp → Prop) =>
 aG v107.nod true (
 C.aLen (l63.getD 5 .junk).nod.nod fun (v111 : V) =>
 C.aLen (l63.getD 6 .junk).nod.nod fun (v112 : V) =>
 C.aBin (Try.prog.underlying 3) .add v111.nod v112.nod fun (v113 : V) =>
 C.aBin (Try.prog.underlying 3) .eql v113.nod (I 0) fun (v114 : V) =>
 R110 v114.nod H64) (
 R110 (B false) H64))) (
 R68 [(l63.getD 0 .junk), (l63.getD 1 .junk), (l63.getD 2 .junk), (l63.getD 4 .junk), (l63.getD 5 .junk), (l63.getD 6 .junk), (l63.getD 7 .junk)] H64)))
 (fun (R65 : List V → Hp → Prop) =>
 C.call 24 [(l9.getD 0 .junk).nod.nod, (l9.getD 1 .junk).nod.nod, (l9.getD 2 .junk).nod.nod] H10 fun (v120 : V) (H121 : Hp) =>
 C.aExt 0 v120.nod.nod fun (v122 : V) =>
 C.aExt 1 v120.nod.nod fun (v123 : V) =>
 C.aExt 2 v120.nod.nod fun (v124 : V) =>
 R65 [(l9.getD 0 .junk), (l9.getD 1 .junk), (l9.getD 2 .junk), (l9.getD 3 .junk), (l9.getD 4 .junk), v122, v123, v124] H121)))
 [(l6.getD 0 .junk), (l6.getD 1 .junk), (l6.getD 2 .junk), (l6.getD 3 .junk), (l6.getD 4 .junk), (I 0)] H7)
 (fun (R8 : List V → Hp → Prop) =>
 C.aLen (l1.getD 2 .junk).nod.nod fun (v125 : V) =>
 C.aBin (Try.prog.underlying 3) .gtr v125.nod (I 500) fun (v126 : V) =>
 C.aBin (Try.prog.underlying 3) .geq (l1.getD 0 .junk).nod.nod (I 1) fun (v127 : V) =>
 Jv (fun (v128 : V) (H129 : Hp) =>
 Jv (fun (v132 : V) (H133 : Hp) =>
 R8 [(l1.getD 0 .junk), (l1.getD 1 .junk), (l1.getD 2 .junk), v126, v132] H133)
 (fun (R134 : V → Hp → Prop) =>
 aG v128.nod true (
 C.aLen (l1.getD 2 .junk).nod.nod fun (v135 : V) =>
 C.aBin (Try.prog.underlying 3) .gtr v135.nod (I 0) fun (v136 : V) =>
 R134 v136.nod H129) (
 R134 (B false) H129)))
 (fun (R130 : V → Hp → Prop) =>
 aG v127.nod true (
 C.aBin (Try.prog.underlying 3) .geq (l1.getD 1 .junk).nod.nod (I 0) fun (v131 : V) =>
 R130 v131.nod H2) (
 R130 (B false) H2)))))
 (fun (R3 : List V → Hp → Prop) =>
 C.aLen a2.nod.nod fun (v137 : V) =>
 C.aBin (Try.prog.underlying 3) .gtr v137.nod (I 6) fun (v138 : V) =>
 Jv (fun (v139 : V) (H140 : Hp) =>
 Jv (fun (v144 : V) (H145 : Hp) =>
 R3 [a0, a1, a2, v144] H145)
 (fun (R146 : V → Hp → Prop) =>
 aG v139.nod false (
 C.aLen a2.nod.nod fun (v147 : V) =>
 C.aBin (Try.prog.underlying 3) .gtr v147.nod (I 600) fun (v148 : V) =>
 R146 v148.nod H140) (
 R146 (B true) H140)))
 (fun (R141 : V → Hp → Prop) =>
 aG v138.nod true (
 C.aLen a2.nod.nod fun (v142 : V) =>
 C.aBin (Try.prog.underlying 3) .leq v142.nod (I 500) fun (v143 : V) =>
 R141 v143.nod H) (
 R141 (B false) H)))
theorem wf4 : (Nat.ble 3 Try.f4.ntmps && wfC an4 Try.f4.ntmps (Try.f4.body.getD .skip)) = true := by kernel_rfl
theorem tie4 (C : Cb) (a0 a1 a2 : V) (H : Hp) (R : List V → Hp → Prop) : wpG Try.prog C an4 (Try.f4.body.getD .skip) (argF [a0, a1, a2]) H (retG Try.prog C Try.f4 R) (fun _ _ _ => False) (retG Try.prog C Try.f4 R) = vc4 C a0 a1 a2 H R := by kernel_rfl
theorem mk4 (a0 a1 a2 : V) {H : Hp} {v : V} {H1 : Hp} (hd : v.Nd) (hn : H.length ≤ H1.length) (hb : H1 = H ∨ ∀ (b : Nat) (blk : Blk), H1[b]? = some blk → H[b]? = some blk ∨ BelB H1.length blk) (h : vc4 (real Try.prog) a0 a1 a2 H (retF v H1)) : Ret Try.prog 4 [a0, a1, a2] H v H1 :=
  ret_mk (an := an4) hm Try.call4 Try.func4 rfl wf4 hd hn hb (Eq.mpr (tie4 (real Try.prog) a0 a1 a2 H (retF v H1)) h)
theorem mko4 (a0 a1 a2 : V) {H : Hp} {xs : List V} {H1 : Hp} (hn : H.length ≤ H1.length) (hb : H1 = H ∨ ∀ (b : Nat) (blk : Blk), H1[b]? = some blk → H[b]? = some blk ∨ BelB H1.length blk) (h : vc4 (real Try.prog) a0 a1 a2 H (retO xs H1)) : Ret Try.prog 4 [a0, a1, a2] H (.arr xs .own) H1 :=
  ret_mko (an := an4) (t := 6) hm Try.call4 Try.func4 rfl wf4 rfl hn hb (Eq.mpr (tie4 (real Try.prog) a0 a1 a2 H (retO xs H1)) h)

end Go.Proofs.Ytehjfjdknllmhaa
