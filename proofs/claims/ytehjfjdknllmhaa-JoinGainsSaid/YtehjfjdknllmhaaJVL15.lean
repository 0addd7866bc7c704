import Derived.Test.YtehjfjdknllmhaaAb23
import Derived.Test.YtehjfjdknllmhaaProg
import Derived.Test.YtehjfjdknllmhaaJV1
set_option linter.unusedVariables false
set_option maxRecDepth 20000
set_option maxHeartbeats 4000000
namespace Go.Proofs.Ytehjfjdknllmhaa
open Go Go.Ab Go.Proofs
/- declaim/declaimlaw07.JoinGains -/
def an15 : An := { imm := [], jn := [(4, [0, 1, 2, 7, 8, 9]), (7, [0, 1, 2, 7, 8, 9, 10, 11, 12, 13]), (8, [0, 1, 2, 7, 8, 9, 10, 11, 12, 13, 50]), (9, [0, 1, 2, 7, 8, 9, 10, 11, 12, 13]), (10, [0, 1, 2, 7, 8, 9, 10, 11, 12, 13, 60]), (11, [0, 1, 2, 7, 8, 9, 10, 11, 12, 13]), (12, [0, 1, 2, 7, 8, 9, 10, 11, 12, 13, 89]), (15, [0, 2, 7, 8, 9, 10, 11, 13, 14, 15]), (16, [0, 2, 10, 11, 13, 111]), (17, [0, 2, 10, 11, 13]), (20, [0, 2, 10, 11, 17])], lp := [], loud := [], ord := [] }
def vc15 (C : Cb) (a0 a1 a2 : V) (H : Hp) (R : List V → Hp → Prop) : Prop :=
 C.call 17 [a0.nod.nod] H fun (v1 : V) (H2 : Hp) =>
 C.aUn .not v1.nod fun (v3 : V) =>
 aCond v3.nod (
 C.call 18 [] H2 fun (v4 : V) (H5 : Hp) =>
 R [v4] H5) (
 Jn (fun (l6 : List V) (H7 : Hp) =>
 C.call 53 [(l6.getD 0 .junk).nod.nod, (l6.getD 2 .junk).nod.nod] H7 fun (v9 : V) (H10 : Hp) =>
 C.aExt 0 v9.nod.nod fun (v11 : V) =>
 C.aExt 1 v9.nod.nod fun (v12 : V) =>
 C.call 42 [(l6.getD 0 .junk).nod.nod] H10 fun (v13 : V) (H14 : Hp) =>
 Jn (fun (l15 : List V) (H16 : Hp) =>
 Jn (fun (l18 : List V) (H19 : Hp) =>
 Jn (fun (l21 : List V) (H22 : Hp) =>
 Jn (fun (l24 : List V) (H25 : Hp) =>
 aCond (l24.getD 10 .junk).nod (
 R [(B false)] H25) (
 Jn (fun (l27 : List V) (H28 : Hp) =>
 C.aBin (Try.prog.underlying 25) .neq (l27.getD 4 .junk).nod.nod (I 0) fun (v30 : V) =>
 aCond v30.nod (
 C.call 18 [] H28 fun (v31 : V) (H32 : Hp) =>
 R [v31] H32) (
 Jn (fun (l33 : List V) (H34 : Hp) =>
 C.aBin (Try.prog.underlying 3) .add (l33.getD 2 .junk).nod.nod (I 1) fun (v36 : V) =>
 C.call 54 [(l33.getD 0 .junk).nod.nod, v36.nod, (l33.getD 1 .junk).nod.nod] H34 fun (v37 : V) (H38 : Hp) =>
 C.aExt 0 v37.nod.nod fun (v39 : V) =>
 C.aExt 1 v37.nod.nod fun (v40 : V) =>
 C.aBin (Try.prog.underlying 25) .eql (l33.getD 3 .junk).nod.nod (I 0) fun (v41 : V) =>
 Jv (fun (v42 : V) (H43 : Hp) =>
 Jv (fun (v46 : V) (H47 : Hp) =>
 Jv (fun (v50 : V) (H51 : Hp) =>
 Jv (fun (v54 : V) (H55 : Hp) =>
 Jv (fun (v59 : V) (H60 : Hp) =>
 R [v59] H60)
 (fun (R61 : V → Hp → Prop) =>
 aG v54.nod true (
 C.call 18 [] H55 fun (v62 : V) (H63 : Hp) =>
 R61 v62.nod H63) (
 R61 (B false) H55)))
 (fun (R56 : V → Hp → Prop) =>
 aG v50.nod true (
 C.aBin (Try.prog.underlying 3) .eql (l33.getD 2 .junk).nod.nod (I 1000000) fun (v57 : V) =>
 aG v57.nod false (
 C.aBin (Try.prog.underlying 3) .gtr v40.nod.nod (I 0) fun (v58 : V) =>
 R56 v58.nod.nod H51) (
 R56 (B true) H51)) (
 UD = UD ∧
 UD = UD ∧
 R56 (B false) H51)))
 (fun (R52 : V → Hp → Prop) =>
 aG v46.nod true (
 C.aBin (Try.prog.underlying 3) .eql (l33.getD 4 .junk).nod.nod (I 0) fun (v53 : V) =>
 R52 v53.nod H47) (
 R52 (B false) H47)))
 (fun (R48 : V → Hp → Prop) =>
 aG v42.nod true (
 C.aBin (Try.prog.underlying 3) .leq (l33.getD 2 .junk).nod.nod (I 1000000) fun (v49 : V) =>
 R48 v49.nod H43) (
 R48 (B false) H43)))
 (fun (R44 : V → Hp → Prop) =>
 aG v41.nod true (
 C.aBin (Try.prog.underlying 3) .geq (l33.getD 2 .junk).nod.nod (I 0) fun (v45 : V) =>
 R44 v45.nod H38) (
 R44 (B false) H38)))
 (fun (R35 : List V → Hp → Prop) =>
 C.call 54 [(l27.getD 0 .junk).nod.nod, (l27.getD 2 .junk).nod.nod, (l27.getD 1 .junk).nod.nod] H28 fun (v64 : V) (H65 : Hp) =>
 C.aExt 0 v64.nod.nod fun (v66 : V) =>
 C.aExt 1 v64.nod.nod fun (v67 : V) =>
 R35 [(l27.getD 0 .junk), (l27.getD 1 .junk), (l27.getD 2 .junk), (l27.getD 3 .junk), v67] H65)))
 (fun (R29 : List V → Hp → Prop) =>
 C.aBin (Try.prog.underlying 25) .eql (l24.getD 8 .junk).nod.nod (I 0) fun (v68 : V) =>
 aCond v68.nod (
 Jn (fun (l69 : List V) (H70 : Hp) =>
 Jn (fun (l72 : List V) (H73 : Hp) =>
 aCond (l72.getD 5 .junk).nod (
 R [(B false)] H73) (
 R29 [(l72.getD 0 .junk), (l72.getD 1 .junk), (l72.getD 2 .junk), (l72.getD 3 .junk), (l72.getD 4 .junk)] H73))
 (fun (R74 : List V → Hp → Prop) =>
 C.aBin (Try.prog.underlying 25) .neq (l69.getD 4 .junk).nod.nod (I 0) fun (v75 : V) =>
 Jv (fun (v76 : V) (H77 : Hp) =>
 Jv (fun (v80 : V) (H81 : Hp) =>
 R74 [(l69.getD 0 .junk), (l69.getD 1 .junk), (l69.getD 5 .junk), (l69.getD 6 .junk), (l69.getD 7 .junk), v80] H81)
 (fun (R82 : V → Hp → Prop) =>
 aG v76.nod false (
 C.call 21 [(l69.getD 2 .junk).nod.nod, (l69.getD 8 .junk).nod.nod] H77 fun (v83 : V) (H84 : Hp) =>
 C.aUn .not v83.nod fun (v85 : V) =>
 R82 v85.nod H84) (
 R82 (B true) H77)))
 (fun (R78 : V → Hp → Prop) =>
 aG v75.nod false (
 C.aBin (Try.prog.underlying 3) .neq (l69.getD 3 .junk).nod.nod (l69.getD 9 .junk).nod.nod fun (v79 : V) =>
 R78 v79.nod H70) (
 R78 (B true) H70))))
 (fun (R71 : List V → Hp → Prop) =>
 C.call 54 [(l24.getD 0 .junk).nod.nod, (l24.getD 1 .junk).nod.nod, (l24.getD 2 .junk).nod.nod] H25 fun (v86 : V) (H87 : Hp) =>
 C.aExt 0 v86.nod.nod fun (v88 : V) =>
 C.aExt 1 v86.nod.nod fun (v89 : V) =>
 R71 [(l24.getD 0 .junk), (l24.getD 2 .junk), (l24.getD 3 .junk), (l24.getD 4 .junk), (l24.getD 5 .junk), (l24.getD 6 .junk), (l24.getD 7 .junk), (l24.getD 9 .junk), v88, v89] H87)) (
 R29 [(l24.getD 0 .junk), (l24.getD 2 .junk), (l24.getD 6 .junk), (l24.getD 7 .junk), (l24.getD 9 .junk)] H25))))
 (fun (R26 : List V → Hp → Prop) =>
 C.aBin (Try.prog.underlying 25) .neq (l21.getD 8 .junk).nod.nod (I 0) fun (v90 : V) =>
 Jv (fun (v91 : V) (H92 : Hp) =>
 Jv (fun (v98 : V) (H99 : Hp) =>
 R26 [(l21.getD 0 .junk), (l21.getD 1 .junk), (l21.getD 2 .junk), (l21.getD 3 .junk), (l21.getD 4 .junk), (l21.getD 5 .junk), (l21.getD 6 .junk), (l21.getD 7 .junk), (l21.getD 8 .junk), (l21.getD 9 .junk), v98] H99)
 (fun (R100 : V → Hp → Prop) =>
 aG v91.nod false (
 C.aBin (Try.prog.underlying 25) .neq (l21.getD 9 .junk).nod.nod (I 0) fun (v101 : V) =>
 aG v101.nod true (
 C.aBin (Try.prog.underlying 25) .neq (l21.getD 7 .junk).nod.nod (l21.getD 9 .junk).nod.nod fun (v102 : V) =>
 aG v102.nod false (
 C.aBin (Try.prog.underlying 3) .neq (l21.getD 6 .junk).nod.nod (I 0) fun (v103 : V) =>
 R100 v103.nod.nod.nod H92) (
 R100 (B true) H92)) (
 UD = UD ∧
 UD = UD ∧
 R100 (B false) H92)) (
 UD = UD ∧
 UD = UD ∧
 UD = UD ∧
 UD = UD ∧
 UD = UD ∧
 UD = UD ∧
 UD = UD ∧
 R100 (B true) H92)))
 (fun (R93 : V → Hp → Prop) =>
 aG v90.nod true (
 C.aBin (Try.prog.underlying 25) .neq (l21.getD 5 .junk).nod.nod (l21.getD 8 .junk).nod.nod fun (v94 : V) =>
 aG v94.nod false (
 C.aLen (l21.getD 3 .junk).nod.nod fun (v95 : V) =>
 C.aBin (Try.prog.underlying 3) .neq v95.nod (I 0) fun (v96 : V) =>
 aG v96.nod.nod false (
 C.aBin (Try.prog.underlying 3) .neq (l21.getD 4 .junk).nod.nod (I 0) fun (v97 : V) =>
 R93 v97.nod.nod H22) (
 R93 (B true) H22)) (
 R93 (B true) H22)) (
 UD = UD ∧
 UD = UD ∧
 UD = UD ∧
 UD = UD ∧
 UD = UD ∧
 R93 (B false) H22))))
 (fun (R23 : List V → Hp → Prop) =>
 Jn (fun (l104 : List V) (H105 : Hp) =>
 aCond (l104.getD 10 .junk).nod (
 R23 [(l104.getD 0 .junk), (l104.getD 1 .junk), (l104.getD 2 .junk), (l104.getD 3 .junk), (l104.getD 4 .junk), (l104.getD 5 .junk), (l104.getD 6 .junk), (l104.getD 7 .junk), (I 2), (l104.getD 9 .junk)] H105) (
 R23 [(l104.getD 0 .junk), (l104.getD 1 .junk), (l104.getD 2 .junk), (l104.getD 3 .junk), (l104.getD 4 .junk), (l104.getD 5 .junk), (l104.getD 6 .junk), (l104.getD 7 .junk), (l104.getD 8 .junk), (l104.getD 9 .junk)] H105))
 (fun (R106 : List V → Hp → Prop) =>
 C.aBin (Try.prog.underlying 25) .eql (l18.getD 8 .junk).nod.nod (I 0) fun (v107 : V) =>
 Jv (fun (v108 : V) (H109 : Hp) =>
 R106 [(l18.getD 0 .junk), (l18.getD 1 .junk), (l18.getD 2 .junk), (l18.getD 3 .junk), (l18.getD 4 .junk), (l18.getD 5 .junk), (l18.getD 6 .junk), (l18.getD 7 .junk), (l18.getD 8 .junk), (l18.getD 9 .junk), v108] H109)
 (fun (R110 : V → Hp → Prop) =>
 aG v107.nod true (
 C.aBin (Try.prog.underlying 3) .lss (l18.getD 1 .junk).nod.nod (I 0) fun (v111 : V) =>
 aG v111.nod false (
 C.aBin (Try.prog.underlying 3) .gtr (l18.getD 1 .junk).nod.nod (I 1000000) fun (v112 : V) =>
 R110 v112.nod.nod H19) (
 R110 (B true) H19)) (
 UD = UD ∧
 UD = UD ∧
 R110 (B false) H19)))))
 (fun (R20 : List V → Hp → Prop) =>
 Jn (fun (l113 : List V) (H114 : Hp) =>
 aCond (l113.getD 10 .junk).nod (
 R20 [(l113.getD 0 .junk), (l113.getD 1 .junk), (l113.getD 2 .junk), (l113.getD 3 .junk), (l113.getD 4 .junk), (l113.getD 5 .junk), (l113.getD 6 .junk), (l113.getD 7 .junk), (I 2), (I 2)] H114) (
 R20 [(l113.getD 0 .junk), (l113.getD 1 .junk), (l113.getD 2 .junk), (l113.getD 3 .junk), (l113.getD 4 .junk), (l113.getD 5 .junk), (l113.getD 6 .junk), (l113.getD 7 .junk), (l113.getD 8 .junk), (l113.getD 9 .junk)] H114))
 (fun (R115 : List V → Hp → Prop) =>
 C.aBin (Try.prog.underlying 25) .eql (l15.getD 8 .junk).nod.nod (I 0) fun (v116 : V) =>
 Jv (fun (v117 : V) (H118 : Hp) =>
 R115 [(l15.getD 0 .junk), (l15.getD 1 .junk), (l15.getD 2 .junk), (l15.getD 3 .junk), (l15.getD 4 .junk), (l15.getD 5 .junk), (l15.getD 6 .junk), (l15.getD 7 .junk), (l15.getD 8 .junk), (l15.getD 9 .junk), v117] H118)
 (fun (R119 : V → Hp → Prop) =>
 aG v116.nod true (
 C.aBin (Try.prog.underlying 3) .lss (l15.getD 2 .junk).nod.nod (I 1) fun (v120 : V) =>
 aG v120.nod false (
 C.aBin (Try.prog.underlying 3) .gtr (l15.getD 2 .junk).nod.nod (I 1000000) fun (v121 : V) =>
 R119 v121.nod.nod H16) (
 R119 (B true) H16)) (
 UD = UD ∧
 UD = UD ∧
 R119 (B false) H16)))))
 (fun (R17 : List V → Hp → Prop) =>
 R17 [(l6.getD 0 .junk), (l6.getD 1 .junk), (l6.getD 2 .junk), (l6.getD 3 .junk), (l6.getD 4 .junk), (l6.getD 5 .junk), v11, v12, v13, v13.nod] H14))
 (fun (R8 : List V → Hp → Prop) =>
 C.call 52 [a0.nod.nod, a1.nod.nod, a2.nod.nod] H2 fun (v122 : V) (H123 : Hp) =>
 C.aExt 0 v122.nod.nod fun (v124 : V) =>
 C.aExt 1 v122.nod.nod fun (v125 : V) =>
 C.aExt 2 v122.nod.nod fun (v126 : V) =>
 R8 [a0, a1, a2, v124, v125, v126] H123))
theorem wf15 : (Nat.ble 3 Try.f15.ntmps && wfC an15 Try.f15.ntmps (Try.f15.body.getD .skip)) = true := by kernel_rfl
theorem tie15 (C : Cb) (a0 a1 a2 : V) (H : Hp) (R : List V → Hp → Prop) : wpG Try.prog C an15 (Try.f15.body.getD .skip) (argF [a0, a1, a2]) H (retG Try.prog C Try.f15 R) (fun _ _ _ => False) (retG Try.prog C Try.f15 R) = vc15 C a0 a1 a2 H R := by kernel_rfl
theorem mk15 (a0 a1 a2 : V) {H : Hp} {v : V} {H1 : Hp} (hd : v.Nd) (hn : H.length ≤ H1.length) (hb : H1 = H ∨ ∀ (b : Nat) (blk : Blk), H1[b]? = some blk → H[b]? = some blk ∨ BelB H1.length blk) (h : vc15 (real Try.prog) a0 a1 a2 H (retF v H1)) : Ret Try.prog 15 [a0, a1, a2] H v H1 :=
  ret_mk (an := an15) hm Try.call15 Try.func15 rfl wf15 hd hn hb (Eq.mpr (tie15 (real Try.prog) a0 a1 a2 H (retF v H1)) h)
theorem mko15 (a0 a1 a2 : V) {H : Hp} {xs : List V} {H1 : Hp} (hn : H.length ≤ H1.length) (hb : H1 = H ∨ ∀ (b : Nat) (blk : Blk), H1[b]? = some blk → H[b]? = some blk ∨ BelB H1.length blk) (h : vc15 (real Try.prog) a0 a1 a2 H (retO xs H1)) : Ret Try.prog 15 [a0, a1, a2] H (.arr xs .own) H1 :=
  ret_mko (an := an15) (t := 6) hm Try.call15 Try.func15 rfl wf15 rfl hn hb (Eq.mpr (tie15 (real Try.prog) a0 a1 a2 H (retO xs H1)) h)

end Go.Proofs.Ytehjfjdknllmhaa
