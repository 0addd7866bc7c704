/- The machinery of the proof, part 4: an abstract machine over list values, proved sound against the model, and the contracts of the functions that the law reaches. No condition. -/
import Derived.Test.YtgodfjbmblghnaaW3
import Derived.Test.YtgodfjbmblghnaaProg
set_option linter.unusedVariables false
set_option maxRecDepth 20000
set_option maxHeartbeats 4000000
namespace Go.Proofs.Ytgodfjbmblghnaa
open Go Go.Ab Go.Proofs
theorem hm : Try.prog.follows .mixedOrders = true := by kernel_rfl
def an14 : An := { imm := [1, 39, 77, 99], jn := [(2, [1, 23]), (8, [1, 3, 4]), (12, [1, 3, 4, 5, 62]), (17, [1, 3, 6]), (19, [1, 3, 6, 7])], lp := [(5, [1, 3, 4]), (9, [1, 3, 4, 5]), (14, [1, 3, 6]), (18, [1, 3, 6, 7])], loud := [], ord := [] }
def vc14 (C : Cb) (a0 : V) (H : Hp) (R : List V → Hp → Prop) : Prop :=
 C.aBx true 7 a0.nod H fun v1 H2 =>
 Jn (fun l3 H4 =>
 aCond (l3.getD 1 .junk).nod (
 R [(B false)] H4) (
 LoopA (fun l6 H7 K8 =>
 C.aFA 4 1 false (l6.getD 0 .junk).nod fun v9 =>
 C.aLd 1 false false v9.nod H7 fun v10 H11 =>
 C.aLen v10.nod fun v12 =>
 C.aBin (Try.prog.underlying 3) .lss (l6.getD 2 .junk).nod.nod v12.nod fun v13 =>
 aCond v13.nod (
 Jn (fun l14 H15 =>
 LoopA (fun l17 H18 K19 =>
 C.aFA 4 1 false (l17.getD 0 .junk).nod fun v20 =>
 C.aLd 1 false false v20.nod H18 fun v21 H22 =>
 C.aIx 2 v21.nod (l17.getD 2 .junk).nod.nod fun v23 =>
 C.aFA 1 1 false v23.nod fun v24 =>
 C.aLd 1 false false v24.nod H22 fun v25 H26 =>
 C.aLen v25.nod fun v27 =>
 C.aBin (Try.prog.underlying 3) .lss (l17.getD 3 .junk).nod.nod v27.nod fun v28 =>
 aCond v28.nod (
 Jn (fun l29 H30 =>
 aCond (l29.getD 4 .junk).nod (
 R [(B false)] H30) (
 C.aBin (Try.prog.underlying 3) .add (l29.getD 3 .junk).nod.nod (I 1) fun v32 =>
 K19 [(l29.getD 0 .junk), (l29.getD 1 .junk), (l29.getD 2 .junk), v32] H30))
 (fun R31 =>
 C.aFA 4 1 false (l17.getD 0 .junk).nod fun v33 =>
 C.aLd 1 false false v33.nod H26 fun v34 H35 =>
 C.aIx 2 v34.nod (l17.getD 2 .junk).nod.nod fun v36 =>
 C.aFA 1 1 false v36.nod fun v37 =>
 C.aLd 1 false false v37.nod H35 fun v38 H39 =>
 C.aIx 4 v38.nod (l17.getD 3 .junk).nod.nod fun v40 =>
 C.aFA 3 1 false v40.nod fun v41 =>
 C.aLd 1 false false v41.nod H39 fun v42 H43 =>
 C.aLenT v42.nod fun v44 =>
 C.aBin (Try.prog.underlying 3) .gtr v44.nod (I 60) fun v45 =>
 R31 [(l17.getD 0 .junk), (l17.getD 1 .junk), (l17.getD 2 .junk), (l17.getD 3 .junk), v45] H43)) (
 C.aBin (Try.prog.underlying 3) .add (l17.getD 2 .junk).nod.nod (I 1) fun v46 =>
 K8 [(l17.getD 0 .junk), (l17.getD 1 .junk), v46] H26))
 [(l14.getD 0 .junk), (l14.getD 1 .junk), (l14.getD 2 .junk), (I 0)] H15)
 (fun R16 =>
 C.aFA 4 1 false (l6.getD 0 .junk).nod fun v47 =>
 C.aLd 1 false false v47.nod H11 fun v48 H49 =>
 C.aIx 2 v48.nod (l6.getD 2 .junk).nod.nod fun v50 =>
 C.aFA 1 1 false v50.nod fun v51 =>
 C.aLd 1 false false v51.nod H49 fun v52 H53 =>
 C.aLen v52.nod fun v54 =>
 C.aWr .add (l6.getD 1 .junk).nod.nod v54.nod fun v55 =>
 R16 [(l6.getD 0 .junk), v55, (l6.getD 2 .junk)] H53)) (
 LoopA (fun l56 H57 K58 =>
 C.aFA 6 1 false (l56.getD 0 .junk).nod fun v59 =>
 C.aLd 1 false false v59.nod H57 fun v60 H61 =>
 C.aLen v60.nod fun v62 =>
 C.aBin (Try.prog.underlying 3) .lss (l56.getD 2 .junk).nod.nod v62.nod fun v63 =>
 aCond v63.nod (
 Jn (fun l64 H65 =>
 LoopA (fun l67 H68 K69 =>
 C.aFA 6 1 false (l67.getD 0 .junk).nod fun v70 =>
 C.aLd 1 false false v70.nod H68 fun v71 H72 =>
 C.aIx 1 v71.nod (l67.getD 2 .junk).nod.nod fun v73 =>
 C.aLd 1 false false v73.nod H72 fun v74 H75 =>
 C.aLen v74.nod fun v76 =>
 C.aBin (Try.prog.underlying 3) .lss (l67.getD 3 .junk).nod.nod v76.nod fun v77 =>
 aCond v77.nod (
 Jn (fun l78 H79 =>
 C.aBin (Try.prog.underlying 3) .add (l78.getD 3 .junk).nod.nod (I 1) fun v81 =>
 K69 [(l78.getD 0 .junk), (l78.getD 1 .junk), (l78.getD 2 .junk), v81] H79)
 (fun R80 =>
 C.aFA 6 1 false (l67.getD 0 .junk).nod fun v82 =>
 C.aLd 1 false false v82.nod H75 fun v83 H84 =>
 C.aIx 1 v83.nod (l67.getD 2 .junk).nod.nod fun v85 =>
 C.aLd 1 false false v85.nod H84 fun v86 H87 =>
 C.aIx 3 v86.nod (l67.getD 3 .junk).nod.nod fun v88 =>
 C.aFA 2 1 false v88.nod fun v89 =>
 C.aLd 1 false false v89.nod H87 fun v90 H91 =>
 C.aLen v90.nod fun v92 =>
 C.aWr .add (l67.getD 1 .junk).nod.nod v92.nod fun v93 =>
 R80 [(l67.getD 0 .junk), v93, (l67.getD 2 .junk), (l67.getD 3 .junk)] H91)) (
 C.aBin (Try.prog.underlying 3) .add (l67.getD 2 .junk).nod.nod (I 1) fun v94 =>
 K58 [(l67.getD 0 .junk), (l67.getD 1 .junk), v94] H75))
 [(l64.getD 0 .junk), (l64.getD 1 .junk), (l64.getD 2 .junk), (I 0)] H65)
 (fun R66 =>
 C.aFA 6 1 false (l56.getD 0 .junk).nod fun v95 =>
 C.aLd 1 false false v95.nod H61 fun v96 H97 =>
 C.aIx 1 v96.nod (l56.getD 2 .junk).nod.nod fun v98 =>
 C.aLd 1 false false v98.nod H97 fun v99 H100 =>
 C.aLen v99.nod fun v101 =>
 C.aWr .add (l56.getD 1 .junk).nod.nod v101.nod fun v102 =>
 R66 [(l56.getD 0 .junk), v102, (l56.getD 2 .junk)] H100)) (
 C.aBin (Try.prog.underlying 3) .leq (l56.getD 1 .junk).nod.nod (I 800) fun v103 =>
 R [v103] H61))
 [(l6.getD 0 .junk), (l6.getD 1 .junk), (I 0)] H11))
 [(l3.getD 0 .junk), (I 0), (I 0)] H4))
 (fun R5 =>
 C.aFA 4 1 false v1.nod fun v104 =>
 C.aLd 1 false false v104.nod H2 fun v105 H106 =>
 C.aLen v105.nod fun v107 =>
 C.aBin (Try.prog.underlying 3) .gtr v107.nod (I 60) fun v108 =>
 Jv (fun v109 H110 =>
 Jv (fun v117 H118 =>
 R5 [v1, v117] H118)
 (fun R119 =>
 aG v109.nod false (
 C.aFA 6 1 false v1.nod fun v120 =>
 C.aLd 1 false false v120.nod H110 fun v121 H122 =>
 C.aLen v121.nod fun v123 =>
 C.aBin (Try.prog.underlying 3) .gtr v123.nod (I 10) fun v124 =>
 R119 v124.nod H122) (
 R119 (B true) H110)))
 (fun R111 =>
 aG v108.nod false (
 C.aFA 5 1 false v1.nod fun v112 =>
 C.aLd 1 false false v112.nod H106 fun v113 H114 =>
 C.aLen v113.nod fun v115 =>
 C.aBin (Try.prog.underlying 3) .gtr v115.nod (I 50) fun v116 =>
 R111 v116.nod H114) (
 R111 (B true) H106)))
theorem wf14 : (Nat.ble 1 Try.f14.ntmps && wfC an14 Try.f14.ntmps (Try.f14.body.getD .skip)) = true := by kernel_rfl
theorem tie14 (C : Cb) (a0 : V) (H : Hp) (R : List V → Hp → Prop) : wpG Try.prog C an14 (Try.f14.body.getD .skip) (argF [a0]) H (retG Try.prog C Try.f14 R) (fun _ _ _ => False) (retG Try.prog C Try.f14 R) = vc14 C a0 H R := by kernel_rfl
theorem mkE14 (a0 : V) {H : Hp} {Q : V → Hp → Prop} (h : vc14 (real Try.prog) a0 H (retW Q)) : RetE Try.prog 14 [a0] H Q :=
  retE_mk (an := an14) hm Try.call14 Try.func14 rfl wf14 (Eq.mpr (tie14 (real Try.prog) a0 H (retW Q)) h)
def an16 : An := { imm := [2], jn := [(2, [1, 2, 12])], lp := [], loud := [], ord := [] }
def vc16 (C : Cb) (a0 a1 : V) (H : Hp) (R : List V → Hp → Prop) : Prop :=
 C.aBx true 7 a0.nod H fun v1 H2 =>
 Jn (fun l3 H4 =>
 aCond (l3.getD 2 .junk).nod (
 R [(I 0), (I 2)] H4) (
 C.aLd 7 true false (l3.getD 1 .junk).nod H4 fun v6 H7 =>
 C.callE 42 [v6.nod, (l3.getD 0 .junk).nod.nod] H7 fun v8 H9 =>
 R [v8, (I 0)] H9))
 (fun R5 =>
 C.aLd 7 true false v1.nod H2 fun v10 H11 =>
 C.callE 18 [v10.nod] H11 fun v12 H13 =>
 C.aBin (Try.prog.underlying 29) .neq v12.nod (I 0) fun v14 =>
 Jv (fun v15 H16 =>
 R5 [a1, v1, v15] H16)
 (fun R17 =>
 aG v14.nod false (
 C.aBin (Try.prog.underlying 3) .lss a1.nod.nod (I 0) fun v18 =>
 R17 v18.nod H13) (
 R17 (B true) H13)))
theorem wf16 : (Nat.ble 2 Try.f16.ntmps && wfC an16 Try.f16.ntmps (Try.f16.body.getD .skip)) = true := by kernel_rfl
theorem tie16 (C : Cb) (a0 a1 : V) (H : Hp) (R : List V → Hp → Prop) : wpG Try.prog C an16 (Try.f16.body.getD .skip) (argF [a0, a1]) H (retG Try.prog C Try.f16 R) (fun _ _ _ => False) (retG Try.prog C Try.f16 R) = vc16 C a0 a1 H R := by kernel_rfl
theorem mk16 (a0 a1 : V) {H : Hp} {v : V} {H1 : Hp} (hd : v.Nd) (hn : H.length ≤ H1.length) (hb : H1 = H ∨ ∀ (b : Nat) (blk : Blk), H1[b]? = some blk → H[b]? = some blk ∨ BelB H1.length blk) (h : vc16 (real Try.prog) a0 a1 H (retF v H1)) : Ret Try.prog 16 [a0, a1] H v H1 :=
  ret_mk (an := an16) hm Try.call16 Try.func16 rfl wf16 hd hn hb (Eq.mpr (tie16 (real Try.prog) a0 a1 H (retF v H1)) h)
def an17 : An := { imm := [1, 5], jn := [(2, [1, 46]), (4, [1, 68]), (9, [1, 3, 83]), (14, [1, 4, 5]), (15, [1, 4, 134]), (21, [1, 6, 7, 173]), (26, [1, 6, 7, 8, 204])], lp := [(6, [1, 3]), (11, [1, 4]), (17, [1, 6]), (23, [1, 6, 7, 8])], loud := [82, 202], ord := [] }
def vc17 (C : Cb) (a0 : V) (H : Hp) (R : List V → Hp → Prop) : Prop :=
 C.aBx true 7 a0.nod H fun v1 H2 =>
 Jn (fun l3 H4 =>
 aCond (l3.getD 1 .junk).nod (
 R [(B false)] H4) (
 Jn (fun l6 H7 =>
 aCond (l6.getD 1 .junk).nod (
 R [(B false)] H7) (
 LoopA (fun l9 H10 K11 =>
 C.aFA 4 1 false (l9.getD 0 .junk).nod fun v12 =>
 C.aLd 1 false false v12.nod H10 fun v13 H14 =>
 C.aLen v13.nod fun v15 =>
 C.aBin (Try.prog.underlying 3) .lss (l9.getD 1 .junk).nod.nod v15.nod fun v16 =>
 aCond v16.nod (
 Jn (fun l17 H18 =>
 aCond (l17.getD 2 .junk).nod (
 R [(B false)] H18) (
 C.aBin (Try.prog.underlying 3) .add (l17.getD 1 .junk).nod.nod (I 1) fun v20 =>
 K11 [(l17.getD 0 .junk), v20] H18))
 (fun R19 =>
 C.aLd 7 true false (l9.getD 0 .junk).nod H14 fun v21 H22 =>
 C.aFA 4 1 false (l9.getD 0 .junk).nod fun v23 =>
 C.aLd 1 false false v23.nod H22 fun v24 H25 =>
 C.aIx 2 v24.nod (l9.getD 1 .junk).nod.nod fun v26 =>
 C.aLd 2 true false v26.nod H25 fun v27 H28 =>
 C.call 43 [v21.nod, v27.nod] H28 fun v29 H30 =>
 C.aUn .not v29.nod fun v31 =>
 R19 [(l9.getD 0 .junk), (l9.getD 1 .junk), v31] H30)) (
 LoopA (fun l32 H33 K34 =>
 C.aFA 5 1 false (l32.getD 0 .junk).nod fun v35 =>
 C.aLd 1 false false v35.nod H33 fun v36 H37 =>
 C.aLen v36.nod fun v38 =>
 C.aBin (Try.prog.underlying 3) .lss (l32.getD 1 .junk).nod.nod v38.nod fun v39 =>
 aCond v39.nod (
 Jn (fun l40 H41 =>
 Jn (fun l43 H44 =>
 aCond (l43.getD 2 .junk).nod (
 R [(B false)] H44) (
 C.aBin (Try.prog.underlying 3) .add (l43.getD 1 .junk).nod.nod (I 1) fun v46 =>
 K34 [(l43.getD 0 .junk), v46] H44))
 (fun R45 =>
 C.aFA 0 1 false (l40.getD 2 .junk).nod fun v47 =>
 C.aLd 1 false false v47.nod H41 fun v48 H49 =>
 C.aBin (Try.prog.underlying 3) .lss v48.nod (I 1) fun v50 =>
 Jv (fun v51 H52 =>
 Jv (fun v58 H59 =>
 Jv (fun v65 H66 =>
 Jv (fun v75 H76 =>
 Jv (fun v85 H86 =>
 Jv (fun v92 H93 =>
 R45 [(l40.getD 0 .junk), (l40.getD 1 .junk), v92] H93)
 (fun R94 =>
 aG v85.nod false (
 C.aFA 3 1 false (l40.getD 2 .junk).nod fun v95 =>
 C.aLd 1 false false v95.nod H86 fun v96 H97 =>
 C.aFA 3 1 false (l40.getD 0 .junk).nod fun v98 =>
 C.aLd 1 false false v98.nod H97 fun v99 H100 =>
 C.aBin (Try.prog.underlying 3) .geq v96.nod v99.nod fun v101 =>
 R94 v101.nod H100) (
 R94 (B true) H86)))
 (fun R87 =>
 aG v75.nod false (
 C.aFA 3 1 false (l40.getD 2 .junk).nod fun v88 =>
 C.aLd 1 false false v88.nod H76 fun v89 H90 =>
 C.aBin (Try.prog.underlying 3) .lss v89.nod (I 0) fun v91 =>
 R87 v91.nod H90) (
 R87 (B true) H76)))
 (fun R77 =>
 aG v65.nod false (
 C.aFA 2 1 false (l40.getD 2 .junk).nod fun v78 =>
 C.aLd 1 false false v78.nod H66 fun v79 H80 =>
 C.aFA 0 1 false (l40.getD 2 .junk).nod fun v81 =>
 C.aLd 1 false false v81.nod H80 fun v82 H83 =>
 C.aBin (Try.prog.underlying 3) .geq v79.nod v82.nod fun v84 =>
 R77 v84.nod H83) (
 R77 (B true) H66)))
 (fun R67 =>
 aG v58.nod false (
 C.aFA 1 1 false (l40.getD 2 .junk).nod fun v68 =>
 C.aLd 1 false false v68.nod H59 fun v69 H70 =>
 C.aFA 2 1 false (l40.getD 2 .junk).nod fun v71 =>
 C.aLd 1 false false v71.nod H70 fun v72 H73 =>
 C.aBin (Try.prog.underlying 3) .gtr v69.nod v72.nod fun v74 =>
 R67 v74.nod H73) (
 R67 (B true) H59)))
 (fun R60 =>
 aG v51.nod false (
 C.aFA 1 1 false (l40.getD 2 .junk).nod fun v61 =>
 C.aLd 1 false false v61.nod H52 fun v62 H63 =>
 C.aBin (Try.prog.underlying 3) .lss v62.nod (I 0) fun v64 =>
 R60 v64.nod H63) (
 R60 (B true) H52)))
 (fun R53 =>
 aG v50.nod false (
 C.aFA 0 1 false (l40.getD 2 .junk).nod fun v54 =>
 C.aLd 1 false false v54.nod H49 fun v55 H56 =>
 C.aBin (Try.prog.underlying 3) .gtr v55.nod (I 1000000) fun v57 =>
 R53 v57.nod H56) (
 R53 (B true) H49))))
 (fun R42 =>
 C.aFA 5 1 false (l32.getD 0 .junk).nod fun v102 =>
 C.aLd 1 false false v102.nod H37 fun v103 H104 =>
 C.aIx 4 v103.nod (l32.getD 1 .junk).nod.nod fun v105 =>
 C.aLd 4 true false v105.nod H104 fun v106 H107 =>
 C.aBx true 4 v106.nod H107 fun v108 H109 =>
 R42 [(l32.getD 0 .junk), (l32.getD 1 .junk), v108] H109)) (
 LoopA (fun l110 H111 K112 =>
 C.aFA 6 1 false (l110.getD 0 .junk).nod fun v113 =>
 C.aLd 1 false false v113.nod H111 fun v114 H115 =>
 C.aLen v114.nod fun v116 =>
 C.aBin (Try.prog.underlying 3) .lss (l110.getD 1 .junk).nod.nod v116.nod fun v117 =>
 aCond v117.nod (
 C.aFA 6 1 false (l110.getD 0 .junk).nod fun v118 =>
 C.aLd 1 false false v118.nod H115 fun v119 H120 =>
 C.aIx 1 v119.nod (l110.getD 1 .junk).nod.nod fun v121 =>
 C.aLd 1 false false v121.nod H120 fun v122 H123 =>
 Jn (fun l124 H125 =>
 aCond (l124.getD 3 .junk).nod (
 R [(B false)] H125) (
 LoopA (fun l127 H128 K129 =>
 C.aLen (l127.getD 2 .junk).nod.nod fun v130 =>
 C.aBin (Try.prog.underlying 3) .lss (l127.getD 3 .junk).nod.nod v130.nod fun v131 =>
 aCond v131.nod (
 Jn (fun l132 H133 =>
 aCond (l132.getD 4 .junk).nod (
 R [(B false)] H133) (
 C.aBin (Try.prog.underlying 3) .add (l132.getD 3 .junk).nod.nod (I 1) fun v135 =>
 K129 [(l132.getD 0 .junk), (l132.getD 1 .junk), (l132.getD 2 .junk), v135] H133))
 (fun R134 =>
 C.aBin (Try.prog.underlying 3) .gtr (l127.getD 3 .junk).nod.nod (I 0) fun v136 =>
 Jv (fun v137 H138 =>
 Jv (fun v150 H151 =>
 R134 [(l127.getD 0 .junk), (l127.getD 1 .junk), (l127.getD 2 .junk), (l127.getD 3 .junk), v150] H151)
 (fun R152 =>
 aG v137.nod false (
 C.aLd 7 true false (l127.getD 0 .junk).nod H138 fun v153 H154 =>
 C.aIx 3 (l127.getD 2 .junk).nod.nod (l127.getD 3 .junk).nod.nod fun v155 =>
 C.aLd 3 true false v155.nod H154 fun v156 H157 =>
 C.call 44 [v153.nod, v156.nod] H157 fun v158 H159 =>
 C.aUn .not v158.nod fun v160 =>
 R152 v160.nod H159) (
 R152 (B true) H138)))
 (fun R139 =>
 aG v136.nod true (
 C.aIx 3 (l127.getD 2 .junk).nod.nod (l127.getD 3 .junk).nod.nod fun v140 =>
 C.aFA 0 1 false v140.nod fun v141 =>
 C.aLd 1 false false v141.nod H128 fun v142 H143 =>
 C.aBin (Try.prog.underlying 3) .sub (l127.getD 3 .junk).nod.nod (I 1) fun v144 =>
 C.aIx 3 (l127.getD 2 .junk).nod.nod v144.nod fun v145 =>
 C.aFA 0 1 false v145.nod fun v146 =>
 C.aLd 1 false false v146.nod H143 fun v147 H148 =>
 C.aBin (Try.prog.underlying 3) .leq v142.nod v147.nod fun v149 =>
 R139 v149.nod H148) (
 R139 (B false) H128)))) (
 C.aBin (Try.prog.underlying 3) .add (l127.getD 1 .junk).nod.nod (I 1) fun v161 =>
 K112 [(l127.getD 0 .junk), v161] H128))
 [(l124.getD 0 .junk), (l124.getD 1 .junk), (l124.getD 2 .junk), (I 0)] H125))
 (fun R126 =>
 C.aLen v122.nod.nod fun v162 =>
 C.aBin (Try.prog.underlying 3) .lss v162.nod (I 1) fun v163 =>
 Jv (fun v164 H165 =>
 Jv (fun v169 H170 =>
 Jv (fun v177 H178 =>
 R126 [(l110.getD 0 .junk), (l110.getD 1 .junk), v122, v177] H178)
 (fun R179 =>
 aG v169.nod false (
 C.aLen v122.nod.nod fun v180 =>
 C.aBin (Try.prog.underlying 3) .sub v180.nod (I 1) fun v181 =>
 C.aIx 3 v122.nod.nod v181.nod fun v182 =>
 C.aFA 0 1 false v182.nod fun v183 =>
 C.aLd 1 false false v183.nod H170 fun v184 H185 =>
 C.aFA 0 1 false (l110.getD 0 .junk).nod fun v186 =>
 C.aLd 1 false false v186.nod H185 fun v187 H188 =>
 C.aBin (Try.prog.underlying 3) .gtr v184.nod v187.nod fun v189 =>
 R179 v189.nod H188) (
 R179 (B true) H170)))
 (fun R171 =>
 aG v164.nod false (
 C.aIx 3 v122.nod.nod (I 0) fun v172 =>
 C.aFA 0 1 false v172.nod fun v173 =>
 C.aLd 1 false false v173.nod H165 fun v174 H175 =>
 C.aBin (Try.prog.underlying 3) .neq v174.nod (I 0) fun v176 =>
 R171 v176.nod H175) (
 R171 (B true) H165)))
 (fun R166 =>
 aG v163.nod false (
 C.aLen v122.nod.nod fun v167 =>
 C.aBin (Try.prog.underlying 3) .gtr v167.nod (I 200) fun v168 =>
 R166 v168.nod H123) (
 R166 (B true) H123)))) (
 R [(B true)] H115))
 [(l32.getD 0 .junk), (I 0)] H37))
 [(l9.getD 0 .junk), (I 0)] H14))
 [(l6.getD 0 .junk), (I 0)] H7))
 (fun R8 =>
 C.aFA 4 1 false (l3.getD 0 .junk).nod fun v190 =>
 C.aLd 1 false false v190.nod H4 fun v191 H192 =>
 C.aLen v191.nod fun v193 =>
 C.aBin (Try.prog.underlying 3) .gtr v193.nod (I 500) fun v194 =>
 Jv (fun v195 H196 =>
 Jv (fun v203 H204 =>
 Jv (fun v211 H212 =>
 R8 [(l3.getD 0 .junk), v211] H212)
 (fun R213 =>
 aG v203.nod false (
 C.aFA 6 1 false (l3.getD 0 .junk).nod fun v214 =>
 C.aLd 1 false false v214.nod H204 fun v215 H216 =>
 C.aLen v215.nod fun v217 =>
 C.aBin (Try.prog.underlying 3) .gtr v217.nod (I 8) fun v218 =>
 R213 v218.nod H216) (
 R213 (B true) H204)))
 (fun R205 =>
 aG v195.nod false (
 C.aFA 6 1 false (l3.getD 0 .junk).nod fun v206 =>
 C.aLd 1 false false v206.nod H196 fun v207 H208 =>
 C.aLen v207.nod fun v209 =>
 C.aBin (Try.prog.underlying 3) .lss v209.nod (I 1) fun v210 =>
 R205 v210.nod H208) (
 R205 (B true) H196)))
 (fun R197 =>
 aG v194.nod false (
 C.aFA 5 1 false (l3.getD 0 .junk).nod fun v198 =>
 C.aLd 1 false false v198.nod H192 fun v199 H200 =>
 C.aLen v199.nod fun v201 =>
 C.aBin (Try.prog.underlying 3) .gtr v201.nod (I 40) fun v202 =>
 R197 v202.nod H200) (
 R197 (B true) H192)))))
 (fun R5 =>
 C.aFA 0 1 false v1.nod fun v219 =>
 C.aLd 1 false false v219.nod H2 fun v220 H221 =>
 C.aBin (Try.prog.underlying 3) .lss v220.nod (I 0) fun v222 =>
 Jv (fun v223 H224 =>
 Jv (fun v230 H231 =>
 Jv (fun v237 H238 =>
 Jv (fun v244 H245 =>
 Jv (fun v251 H252 =>
 Jv (fun v258 H259 =>
 Jv (fun v265 H266 =>
 R5 [v1, v265] H266)
 (fun R267 =>
 aG v258.nod false (
 C.aFA 3 1 false v1.nod fun v268 =>
 C.aLd 1 false false v268.nod H259 fun v269 H270 =>
 C.aBin (Try.prog.underlying 3) .gtr v269.nod (I 6) fun v271 =>
 R267 v271.nod H270) (
 R267 (B true) H259)))
 (fun R260 =>
 aG v251.nod false (
 C.aFA 3 1 false v1.nod fun v261 =>
 C.aLd 1 false false v261.nod H252 fun v262 H263 =>
 C.aBin (Try.prog.underlying 3) .lss v262.nod (I 1) fun v264 =>
 R260 v264.nod H263) (
 R260 (B true) H252)))
 (fun R253 =>
 aG v244.nod false (
 C.aFA 2 1 false v1.nod fun v254 =>
 C.aLd 1 false false v254.nod H245 fun v255 H256 =>
 C.aBin (Try.prog.underlying 3) .gtr v255.nod (I 8) fun v257 =>
 R253 v257.nod H256) (
 R253 (B true) H245)))
 (fun R246 =>
 aG v237.nod false (
 C.aFA 2 1 false v1.nod fun v247 =>
 C.aLd 1 false false v247.nod H238 fun v248 H249 =>
 C.aBin (Try.prog.underlying 3) .lss v248.nod (I 1) fun v250 =>
 R246 v250.nod H249) (
 R246 (B true) H238)))
 (fun R239 =>
 aG v230.nod false (
 C.aFA 1 1 false v1.nod fun v240 =>
 C.aLd 1 false false v240.nod H231 fun v241 H242 =>
 C.aBin (Try.prog.underlying 3) .gtr v241.nod (I 4) fun v243 =>
 R239 v243.nod H242) (
 R239 (B true) H231)))
 (fun R232 =>
 aG v223.nod false (
 C.aFA 1 1 false v1.nod fun v233 =>
 C.aLd 1 false false v233.nod H224 fun v234 H235 =>
 C.aBin (Try.prog.underlying 3) .lss v234.nod (I 1) fun v236 =>
 R232 v236.nod H235) (
 R232 (B true) H224)))
 (fun R225 =>
 aG v222.nod false (
 C.aFA 0 1 false v1.nod fun v226 =>
 C.aLd 1 false false v226.nod H221 fun v227 H228 =>
 C.aBin (Try.prog.underlying 3) .gtr v227.nod (I 999999999999) fun v229 =>
 R225 v229.nod H228) (
 R225 (B true) H221)))
theorem wf17 : (Nat.ble 1 Try.f17.ntmps && wfC an17 Try.f17.ntmps (Try.f17.body.getD .skip)) = true := by kernel_rfl
theorem tie17 (C : Cb) (a0 : V) (H : Hp) (R : List V → Hp → Prop) : wpG Try.prog C an17 (Try.f17.body.getD .skip) (argF [a0]) H (retG Try.prog C Try.f17 R) (fun _ _ _ => False) (retG Try.prog C Try.f17 R) = vc17 C a0 H R := by kernel_rfl
theorem mk17 (a0 : V) {H : Hp} {v : V} {H1 : Hp} (hd : v.Nd) (hn : H.length ≤ H1.length) (hb : H1 = H ∨ ∀ (b : Nat) (blk : Blk), H1[b]? = some blk → H[b]? = some blk ∨ BelB H1.length blk) (h : vc17 (real Try.prog) a0 H (retF v H1)) : Ret Try.prog 17 [a0] H v H1 :=
  ret_mk (an := an17) hm Try.call17 Try.func17 rfl wf17 hd hn hb (Eq.mpr (tie17 (real Try.prog) a0 H (retF v H1)) h)
def an18 : An := { imm := [1], jn := [(2, [1, 24]), (4, [1, 51])], lp := [], loud := [], ord := [] }
def vc18 (C : Cb) (a0 : V) (H : Hp) (R : List V → Hp → Prop) : Prop :=
 C.aBx true 7 a0.nod H fun v1 H2 =>
 Jn (fun l3 H4 =>
 aCond (l3.getD 1 .junk).nod (
 R [(I 2)] H4) (
 Jn (fun l6 H7 =>
 aCond (l6.getD 1 .junk).nod (
 R [(I 2)] H7) (
 C.aFA 6 1 false (l6.getD 0 .junk).nod fun v9 =>
 C.aLd 1 false false v9.nod H7 fun v10 H11 =>
 C.callE 48 [v10.nod, (V.fn 49 [(l6.getD 0 .junk).nod])] H11 fun v12 H13 =>
 aCond v12.nod (
 R [(I 2)] H13) (
 R [(I 0)] H13)))
 (fun R8 =>
 C.aFA 4 1 false (l3.getD 0 .junk).nod fun v14 =>
 C.aLd 1 false false v14.nod H4 fun v15 H16 =>
 C.aLen v15.nod fun v17 =>
 C.aBin (Try.prog.underlying 3) .gtr v17.nod (I 500) fun v18 =>
 Jv (fun v19 H20 =>
 Jv (fun v27 H28 =>
 Jv (fun v37 H38 =>
 Jv (fun v45 H46 =>
 R8 [(l3.getD 0 .junk), v45] H46)
 (fun R47 =>
 aG v37.nod false (
 C.aLd 7 true false (l3.getD 0 .junk).nod H38 fun v48 H49 =>
 C.callE 47 [v48.nod] H49 fun v50 H51 =>
 C.aUn .not v50.nod fun v52 =>
 R47 v52.nod H51) (
 R47 (B true) H38)))
 (fun R39 =>
 aG v27.nod false (
 C.aLd 7 true false (l3.getD 0 .junk).nod H28 fun v40 H41 =>
 C.callE 46 [v40.nod] H41 fun v42 H43 =>
 C.aUn .not v42.nod fun v44 =>
 R39 v44.nod H43) (
 R39 (B true) H28)))
 (fun R29 =>
 aG v19.nod false (
 C.aFA 6 1 false (l3.getD 0 .junk).nod fun v30 =>
 C.aLd 1 false false v30.nod H20 fun v31 H32 =>
 C.aLen v31.nod fun v33 =>
 C.callE 45 [v33.nod, (I 1), (I 8)] H32 fun v34 H35 =>
 C.aUn .not v34.nod fun v36 =>
 R29 v36.nod H35) (
 R29 (B true) H20)))
 (fun R21 =>
 aG v18.nod false (
 C.aFA 5 1 false (l3.getD 0 .junk).nod fun v22 =>
 C.aLd 1 false false v22.nod H16 fun v23 H24 =>
 C.aLen v23.nod fun v25 =>
 C.aBin (Try.prog.underlying 3) .gtr v25.nod (I 40) fun v26 =>
 R21 v26.nod H24) (
 R21 (B true) H16)))))
 (fun R5 =>
 C.aFA 0 1 false v1.nod fun v53 =>
 C.aLd 1 false false v53.nod H2 fun v54 H55 =>
 C.callE 45 [v54.nod, (I 0), (I 999999999999)] H55 fun v56 H57 =>
 C.aUn .not v56.nod fun v58 =>
 Jv (fun v59 H60 =>
 Jv (fun v68 H69 =>
 Jv (fun v77 H78 =>
 R5 [v1, v77] H78)
 (fun R79 =>
 aG v68.nod false (
 C.aFA 3 1 false v1.nod fun v80 =>
 C.aLd 1 false false v80.nod H69 fun v81 H82 =>
 C.callE 45 [v81.nod, (I 1), (I 6)] H82 fun v83 H84 =>
 C.aUn .not v83.nod fun v85 =>
 R79 v85.nod H84) (
 R79 (B true) H69)))
 (fun R70 =>
 aG v59.nod false (
 C.aFA 2 1 false v1.nod fun v71 =>
 C.aLd 1 false false v71.nod H60 fun v72 H73 =>
 C.callE 45 [v72.nod, (I 1), (I 8)] H73 fun v74 H75 =>
 C.aUn .not v74.nod fun v76 =>
 R70 v76.nod H75) (
 R70 (B true) H60)))
 (fun R61 =>
 aG v58.nod false (
 C.aFA 1 1 false v1.nod fun v62 =>
 C.aLd 1 false false v62.nod H57 fun v63 H64 =>
 C.callE 45 [v63.nod, (I 1), (I 4)] H64 fun v65 H66 =>
 C.aUn .not v65.nod fun v67 =>
 R61 v67.nod H66) (
 R61 (B true) H57)))
theorem wf18 : (Nat.ble 1 Try.f18.ntmps && wfC an18 Try.f18.ntmps (Try.f18.body.getD .skip)) = true := by kernel_rfl
theorem tie18 (C : Cb) (a0 : V) (H : Hp) (R : List V → Hp → Prop) : wpG Try.prog C an18 (Try.f18.body.getD .skip) (argF [a0]) H (retG Try.prog C Try.f18 R) (fun _ _ _ => False) (retG Try.prog C Try.f18 R) = vc18 C a0 H R := by kernel_rfl
theorem mk18 (a0 : V) {H : Hp} {v : V} {H1 : Hp} (hd : v.Nd) (hn : H.length ≤ H1.length) (hb : H1 = H ∨ ∀ (b : Nat) (blk : Blk), H1[b]? = some blk → H[b]? = some blk ∨ BelB H1.length blk) (h : vc18 (real Try.prog) a0 H (retF v H1)) : Ret Try.prog 18 [a0] H v H1 :=
  ret_mk (an := an18) hm Try.call18 Try.func18 rfl wf18 hd hn hb (Eq.mpr (tie18 (real Try.prog) a0 H (retF v H1)) h)
def an20 : An := { imm := [2, 3], jn := [(4, [2, 3]), (7, [7])], lp := [], loud := [], ord := [] }
def vc20 (C : Cb) (a0 a1 : V) (H : Hp) (R : List V → Hp → Prop) : Prop :=
 C.aBx true 7 a0.nod H fun v1 H2 =>
 C.aBx true 4 a1.nod H2 fun v3 H4 =>
 Jn (fun l5 H6 =>
 C.aLd 7 true false (l5.getD 0 .junk).nod H6 fun v8 H9 =>
 C.aBd [(I 0), (I 0), (I 0), (I 0), (V.arr [] .full), (V.arr [] .full), (V.arr [] .full)] [(0, 7, v8.nod)] fun v10 =>
 C.aLd 4 true false (l5.getD 1 .junk).nod H9 fun v11 H12 =>
 C.callE 52 [v10.nod, v11.nod] H12 fun v13 H14 =>
 C.aExt 0 v13.nod.nod fun v15 =>
 C.aExt 1 v13.nod.nod fun v16 =>
 Jn (fun l17 H18 =>
 R [(l17.getD 0 .junk).nod, (I 0)] H18)
 (fun R19 =>
 C.aUn .not v16.nod.nod fun v20 =>
 aCond v20.nod (
 R [(V.arr [] .full), (I 5)] H14) (
 R19 [v15] H14)))
 (fun R7 =>
 C.aLd 7 true false v1.nod H4 fun v21 H22 =>
 C.aLd 4 true false v3.nod H22 fun v23 H24 =>
 C.callE 51 [v21.nod, v23.nod] H24 fun v25 H26 =>
 C.aBin (Try.prog.underlying 29) .neq v25.nod.nod (I 0) fun v27 =>
 aCond v27.nod (
 R [(V.arr [] .full), v25.nod] H26) (
 R7 [v1, v3] H26))
theorem wf20 : (Nat.ble 2 Try.f20.ntmps && wfC an20 Try.f20.ntmps (Try.f20.body.getD .skip)) = true := by kernel_rfl
theorem tie20 (C : Cb) (a0 a1 : V) (H : Hp) (R : List V → Hp → Prop) : wpG Try.prog C an20 (Try.f20.body.getD .skip) (argF [a0, a1]) H (retG Try.prog C Try.f20 R) (fun _ _ _ => False) (retG Try.prog C Try.f20 R) = vc20 C a0 a1 H R := by kernel_rfl
theorem mk20 (a0 a1 : V) {H : Hp} {v : V} {H1 : Hp} (hd : v.Nd) (hn : H.length ≤ H1.length) (hb : H1 = H ∨ ∀ (b : Nat) (blk : Blk), H1[b]? = some blk → H[b]? = some blk ∨ BelB H1.length blk) (h : vc20 (real Try.prog) a0 a1 H (retF v H1)) : Ret Try.prog 20 [a0, a1] H v H1 :=
  ret_mk (an := an20) hm Try.call20 Try.func20 rfl wf20 hd hn hb (Eq.mpr (tie20 (real Try.prog) a0 a1 H (retF v H1)) h)
def an21 : An := { imm := [2, 3], jn := [(4, [2, 3]), (7, [7])], lp := [], loud := [], ord := [] }
def vc21 (C : Cb) (a0 a1 : V) (H : Hp) (R : List V → Hp → Prop) : Prop :=
 C.aBx true 7 a0.nod H fun v1 H2 =>
 C.aBx true 4 a1.nod H2 fun v3 H4 =>
 Jn (fun l5 H6 =>
 C.aLd 7 true false (l5.getD 0 .junk).nod H6 fun v8 H9 =>
 C.aBd [(I 0), (I 0), (I 0), (I 0), (V.arr [] .full), (V.arr [] .full), (V.arr [] .full)] [(0, 7, v8.nod)] fun v10 =>
 C.aLd 4 true false (l5.getD 1 .junk).nod H9 fun v11 H12 =>
 C.callE 53 [v10.nod, v11.nod] H12 fun v13 H14 =>
 C.aExt 0 v13.nod.nod fun v15 =>
 C.aExt 1 v13.nod.nod fun v16 =>
 Jn (fun l17 H18 =>
 R [(l17.getD 0 .junk).nod, (I 0)] H18)
 (fun R19 =>
 C.aUn .not v16.nod.nod fun v20 =>
 aCond v20.nod (
 R [(V.arr [] .full), (I 5)] H14) (
 R19 [v15] H14)))
 (fun R7 =>
 C.aLd 7 true false v1.nod H4 fun v21 H22 =>
 C.aLd 4 true false v3.nod H22 fun v23 H24 =>
 C.callE 51 [v21.nod, v23.nod] H24 fun v25 H26 =>
 C.aBin (Try.prog.underlying 29) .neq v25.nod.nod (I 0) fun v27 =>
 aCond v27.nod (
 R [(V.arr [] .full), v25.nod] H26) (
 R7 [v1, v3] H26))
theorem wf21 : (Nat.ble 2 Try.f21.ntmps && wfC an21 Try.f21.ntmps (Try.f21.body.getD .skip)) = true := by kernel_rfl
theorem tie21 (C : Cb) (a0 a1 : V) (H : Hp) (R : List V → Hp → Prop) : wpG Try.prog C an21 (Try.f21.body.getD .skip) (argF [a0, a1]) H (retG Try.prog C Try.f21 R) (fun _ _ _ => False) (retG Try.prog C Try.f21 R) = vc21 C a0 a1 H R := by kernel_rfl
theorem mk21 (a0 a1 : V) {H : Hp} {v : V} {H1 : Hp} (hd : v.Nd) (hn : H.length ≤ H1.length) (hb : H1 = H ∨ ∀ (b : Nat) (blk : Blk), H1[b]? = some blk → H[b]? = some blk ∨ BelB H1.length blk) (h : vc21 (real Try.prog) a0 a1 H (retF v H1)) : Ret Try.prog 21 [a0, a1] H v H1 :=
  ret_mk (an := an21) hm Try.call21 Try.func21 rfl wf21 hd hn hb (Eq.mpr (tie21 (real Try.prog) a0 a1 H (retF v H1)) h)
def an22 : An := { imm := [3, 4], jn := [(2, [2, 4, 15]), (4, [21])], lp := [], loud := [], ord := [] }
def vc22 (C : Cb) (a0 a1 a2 : V) (H : Hp) (R : List V → Hp → Prop) : Prop :=
 C.aBx true 7 a0.nod H fun v1 H2 =>
 C.aBx true 4 a1.nod H2 fun v3 H4 =>
 Jn (fun l5 H6 =>
 aCond (l5.getD 2 .junk).nod (
 R [(I 2)] H6) (
 Jn (fun l8 H9 =>
 aCond (l8.getD 0 .junk).nod (
 R [(I 4)] H9) (
 R [(I 0)] H9))
 (fun R10 =>
 Jv (fun v11 H12 =>
 R10 [v11] H12)
 (fun R13 =>
 aG (l5.getD 0 .junk).nod.nod true (
 C.aFA 0 1 false (l5.getD 1 .junk).nod fun v14 =>
 C.aLd 1 false false v14.nod H6 fun v15 H16 =>
 C.aBin (Try.prog.underlying 3) .gtr v15.nod (I 20000) fun v17 =>
 R13 v17.nod H16) (
 R13 (B false) H6)))))
 (fun R7 =>
 C.aLd 7 true false v1.nod H4 fun v18 H19 =>
 C.callE 17 [v18.nod] H19 fun v20 H21 =>
 C.aUn .not v20.nod fun v22 =>
 Jv (fun v23 H24 =>
 R7 [a2, v3, v23] H24)
 (fun R25 =>
 aG v22.nod false (
 C.aLd 7 true false v1.nod H21 fun v26 H27 =>
 C.aLd 4 true false v3.nod H27 fun v28 H29 =>
 C.callE 54 [v26.nod, v28.nod] H29 fun v30 H31 =>
 C.aUn .not v30.nod fun v32 =>
 R25 v32.nod H31) (
 R25 (B true) H21)))
theorem wf22 : (Nat.ble 3 Try.f22.ntmps && wfC an22 Try.f22.ntmps (Try.f22.body.getD .skip)) = true := by kernel_rfl
theorem tie22 (C : Cb) (a0 a1 a2 : V) (H : Hp) (R : List V → Hp → Prop) : wpG Try.prog C an22 (Try.f22.body.getD .skip) (argF [a0, a1, a2]) H (retG Try.prog C Try.f22 R) (fun _ _ _ => False) (retG Try.prog C Try.f22 R) = vc22 C a0 a1 a2 H R := by kernel_rfl
theorem mk22 (a0 a1 a2 : V) {H : Hp} {v : V} {H1 : Hp} (hd : v.Nd) (hn : H.length ≤ H1.length) (hb : H1 = H ∨ ∀ (b : Nat) (blk : Blk), H1[b]? = some blk → H[b]? = some blk ∨ BelB H1.length blk) (h : vc22 (real Try.prog) a0 a1 a2 H (retF v H1)) : Ret Try.prog 22 [a0, a1, a2] H v H1 :=
  ret_mk (an := an22) hm Try.call22 Try.func22 rfl wf22 hd hn hb (Eq.mpr (tie22 (real Try.prog) a0 a1 a2 H (retF v H1)) h)
def an25 : An := { imm := [], jn := [(7, [0, 1, 5, 25])], lp := [(4, [0, 1, 5])], loud := [], ord := [] }
def vc25 (C : Cb) (a0 a1 : V) (H : Hp) (R : List V → Hp → Prop) : Prop :=
 C.aLen a0.nod.nod fun v1 =>
 C.aLen a1.nod.nod fun v2 =>
 C.aBin (Try.prog.underlying 3) .neq v1.nod v2.nod fun v3 =>
 aCond v3.nod (
 R [(B false)] H) (
 LoopA (fun l4 H5 K6 =>
 C.aLen (l4.getD 0 .junk).nod.nod fun v7 =>
 C.aBin (Try.prog.underlying 3) .lss (l4.getD 2 .junk).nod.nod v7.nod fun v8 =>
 aCond v8.nod (
 Jn (fun l9 H10 =>
 aCond (l9.getD 3 .junk).nod (
 R [(B false)] H10) (
 C.aBin (Try.prog.underlying 3) .add (l9.getD 2 .junk).nod.nod (I 1) fun v12 =>
 K6 [(l9.getD 0 .junk), (l9.getD 1 .junk), v12] H10))
 (fun R11 =>
 C.aIx 1 (l4.getD 0 .junk).nod.nod (l4.getD 2 .junk).nod.nod fun v13 =>
 C.aLd 1 false false v13.nod H5 fun v14 H15 =>
 C.aIx 1 (l4.getD 1 .junk).nod.nod (l4.getD 2 .junk).nod.nod fun v16 =>
 C.aLd 1 false false v16.nod H15 fun v17 H18 =>
 C.aBin (Try.prog.underlying 9) .neq v14.nod v17.nod fun v19 =>
 R11 [(l4.getD 0 .junk), (l4.getD 1 .junk), (l4.getD 2 .junk), v19] H18)) (
 R [(B true)] H5))
 [a0, a1, (I 0)] H)
theorem wf25 : (Nat.ble 2 Try.f25.ntmps && wfC an25 Try.f25.ntmps (Try.f25.body.getD .skip)) = true := by kernel_rfl
theorem tie25 (C : Cb) (a0 a1 : V) (H : Hp) (R : List V → Hp → Prop) : wpG Try.prog C an25 (Try.f25.body.getD .skip) (argF [a0, a1]) H (retG Try.prog C Try.f25 R) (fun _ _ _ => False) (retG Try.prog C Try.f25 R) = vc25 C a0 a1 H R := by kernel_rfl
theorem mk25 (a0 a1 : V) {H : Hp} {v : V} {H1 : Hp} (hd : v.Nd) (hn : H.length ≤ H1.length) (hb : H1 = H ∨ ∀ (b : Nat) (blk : Blk), H1[b]? = some blk → H[b]? = some blk ∨ BelB H1.length blk) (h : vc25 (real Try.prog) a0 a1 H (retF v H1)) : Ret Try.prog 25 [a0, a1] H v H1 :=
  ret_mk (an := an25) hm Try.call25 Try.func25 rfl wf25 hd hn hb (Eq.mpr (tie25 (real Try.prog) a0 a1 H (retF v H1)) h)
end Go.Proofs.Ytgodfjbmblghnaa

set_option linter.unusedVariables false
set_option maxRecDepth 20000
set_option maxHeartbeats 4000000
namespace Go.Proofs.Ytgodfjbmblghnaa
open Go Go.Ab Go.Proofs
def an27 : An := { imm := [3, 4, 5], jn := [(3, [3, 4, 5, 8, 15]), (7, [9])], lp := [], loud := [], ord := [] }
def vc27 (C : Cb) (a0 a1 a2 : V) (H : Hp) (R : List V → Hp → Prop) : Prop :=
 C.aBx true 7 a0.nod H fun v1 H2 =>
 C.aBx true 4 a1.nod H2 fun v3 H4 =>
 C.aBx true 1 a2.nod H4 fun v5 H6 =>
 C.aLd 4 true false v3.nod H6 fun v7 H8 =>
 C.aLd 7 true false v1.nod H8 fun v9 H10 =>
 C.aBS 7 1 (V.agg [(I 0), (I 0), (I 0), (I 0), (V.arr [] .full), (V.arr [] .full), (V.arr [] .full)]) [(0, v9.nod)] fun v11 =>
 C.callE 57 [v7.nod, v11.nod] H10 fun v12 H13 =>
 Jn (fun l14 H15 =>
 aCond (l14.getD 4 .junk).nod (
 R [(V.arr [] .full), (l14.getD 3 .junk).nod] H15) (
 C.aFA 0 1 false (l14.getD 1 .junk).nod fun v17 =>
 C.aLd 1 false false v17.nod H15 fun v18 H19 =>
 C.callE 58 [v18.nod, (V.fn 59 [(l14.getD 0 .junk).nod, (l14.getD 1 .junk).nod, (l14.getD 2 .junk).nod])] H19 fun v20 H21 =>
 Jn (fun l22 H23 =>
 R [(l22.getD 0 .junk).nod, (I 0)] H23)
 (fun R24 =>
 C.aLen v20.nod.nod fun v25 =>
 C.aBin (Try.prog.underlying 3) .eql v25.nod (I 0) fun v26 =>
 aCond v26.nod (
 R [(V.arr [] .full), (I 5)] H21) (
 R24 [v20] H21))))
 (fun R16 =>
 C.aBin (Try.prog.underlying 29) .neq v12.nod.nod (I 0) fun v27 =>
 R16 [v1, v3, v5, v12, v27] H13)
theorem wf27 : (Nat.ble 3 Try.f27.ntmps && wfC an27 Try.f27.ntmps (Try.f27.body.getD .skip)) = true := by kernel_rfl
theorem tie27 (C : Cb) (a0 a1 a2 : V) (H : Hp) (R : List V → Hp → Prop) : wpG Try.prog C an27 (Try.f27.body.getD .skip) (argF [a0, a1, a2]) H (retG Try.prog C Try.f27 R) (fun _ _ _ => False) (retG Try.prog C Try.f27 R) = vc27 C a0 a1 a2 H R := by kernel_rfl
theorem mk27 (a0 a1 a2 : V) {H : Hp} {v : V} {H1 : Hp} (hd : v.Nd) (hn : H.length ≤ H1.length) (hb : H1 = H ∨ ∀ (b : Nat) (blk : Blk), H1[b]? = some blk → H[b]? = some blk ∨ BelB H1.length blk) (h : vc27 (real Try.prog) a0 a1 a2 H (retF v H1)) : Ret Try.prog 27 [a0, a1, a2] H v H1 :=
  ret_mk (an := an27) hm Try.call27 Try.func27 rfl wf27 hd hn hb (Eq.mpr (tie27 (real Try.prog) a0 a1 a2 H (retF v H1)) h)
def an29 : An := { imm := [], jn := [(7, [0, 1, 5, 25])], lp := [(4, [0, 1, 5])], loud := [], ord := [] }
def vc29 (C : Cb) (a0 a1 : V) (H : Hp) (R : List V → Hp → Prop) : Prop :=
 C.aLen a0.nod.nod fun v1 =>
 C.aLen a1.nod.nod fun v2 =>
 C.aBin (Try.prog.underlying 3) .neq v1.nod v2.nod fun v3 =>
 aCond v3.nod (
 R [(B false)] H) (
 LoopA (fun l4 H5 K6 =>
 C.aLen (l4.getD 0 .junk).nod.nod fun v7 =>
 C.aBin (Try.prog.underlying 3) .lss (l4.getD 2 .junk).nod.nod v7.nod fun v8 =>
 aCond v8.nod (
 Jn (fun l9 H10 =>
 aCond (l9.getD 3 .junk).nod (
 R [(B false)] H10) (
 C.aBin (Try.prog.underlying 3) .add (l9.getD 2 .junk).nod.nod (I 1) fun v12 =>
 K6 [(l9.getD 0 .junk), (l9.getD 1 .junk), v12] H10))
 (fun R11 =>
 C.aIx 1 (l4.getD 0 .junk).nod.nod (l4.getD 2 .junk).nod.nod fun v13 =>
 C.aLd 1 false false v13.nod H5 fun v14 H15 =>
 C.aIx 1 (l4.getD 1 .junk).nod.nod (l4.getD 2 .junk).nod.nod fun v16 =>
 C.aLd 1 false false v16.nod H15 fun v17 H18 =>
 C.aBin (Try.prog.underlying 3) .neq v14.nod v17.nod fun v19 =>
 R11 [(l4.getD 0 .junk), (l4.getD 1 .junk), (l4.getD 2 .junk), v19] H18)) (
 R [(B true)] H5))
 [a0, a1, (I 0)] H)
theorem wf29 : (Nat.ble 2 Try.f29.ntmps && wfC an29 Try.f29.ntmps (Try.f29.body.getD .skip)) = true := by kernel_rfl
theorem tie29 (C : Cb) (a0 a1 : V) (H : Hp) (R : List V → Hp → Prop) : wpG Try.prog C an29 (Try.f29.body.getD .skip) (argF [a0, a1]) H (retG Try.prog C Try.f29 R) (fun _ _ _ => False) (retG Try.prog C Try.f29 R) = vc29 C a0 a1 H R := by kernel_rfl
theorem mk29 (a0 a1 : V) {H : Hp} {v : V} {H1 : Hp} (hd : v.Nd) (hn : H.length ≤ H1.length) (hb : H1 = H ∨ ∀ (b : Nat) (blk : Blk), H1[b]? = some blk → H[b]? = some blk ∨ BelB H1.length blk) (h : vc29 (real Try.prog) a0 a1 H (retF v H1)) : Ret Try.prog 29 [a0, a1] H v H1 :=
  ret_mk (an := an29) hm Try.call29 Try.func29 rfl wf29 hd hn hb (Eq.mpr (tie29 (real Try.prog) a0 a1 H (retF v H1)) h)
def an30 : An := { imm := [3, 4, 5], jn := [(3, [3, 4, 5, 8, 15])], lp := [], loud := [], ord := [] }
def vc30 (C : Cb) (a0 a1 a2 : V) (H : Hp) (R : List V → Hp → Prop) : Prop :=
 C.aBx true 7 a0.nod H fun v1 H2 =>
 C.aBx true 7 a1.nod H2 fun v3 H4 =>
 C.aBx true 4 a2.nod H4 fun v5 H6 =>
 C.aLd 4 true false v5.nod H6 fun v7 H8 =>
 C.aLd 7 true false v1.nod H8 fun v9 H10 =>
 C.aLd 7 true false v3.nod H10 fun v11 H12 =>
 C.aBS 7 2 (V.agg [(I 0), (I 0), (I 0), (I 0), (V.arr [] .full), (V.arr [] .full), (V.arr [] .full)]) [(0, v9.nod), (1, v11.nod)] fun v13 =>
 C.callE 57 [v7.nod, v13.nod] H12 fun v14 H15 =>
 Jn (fun l16 H17 =>
 aCond (l16.getD 4 .junk).nod (
 R [(V.arr [] .full), (l16.getD 3 .junk).nod] H17) (
 C.aFA 0 1 false (l16.getD 2 .junk).nod fun v19 =>
 C.aLd 1 false false v19.nod H17 fun v20 H21 =>
 C.callE 58 [v20.nod, (V.fn 62 [(l16.getD 0 .junk).nod, (l16.getD 2 .junk).nod, (l16.getD 1 .junk).nod])] H21 fun v22 H23 =>
 R [v22, (I 0)] H23))
 (fun R18 =>
 C.aBin (Try.prog.underlying 29) .neq v14.nod.nod (I 0) fun v24 =>
 R18 [v1, v3, v5, v14, v24] H15)
theorem wf30 : (Nat.ble 3 Try.f30.ntmps && wfC an30 Try.f30.ntmps (Try.f30.body.getD .skip)) = true := by kernel_rfl
theorem tie30 (C : Cb) (a0 a1 a2 : V) (H : Hp) (R : List V → Hp → Prop) : wpG Try.prog C an30 (Try.f30.body.getD .skip) (argF [a0, a1, a2]) H (retG Try.prog C Try.f30 R) (fun _ _ _ => False) (retG Try.prog C Try.f30 R) = vc30 C a0 a1 a2 H R := by kernel_rfl
theorem mk30 (a0 a1 a2 : V) {H : Hp} {v : V} {H1 : Hp} (hd : v.Nd) (hn : H.length ≤ H1.length) (hb : H1 = H ∨ ∀ (b : Nat) (blk : Blk), H1[b]? = some blk → H[b]? = some blk ∨ BelB H1.length blk) (h : vc30 (real Try.prog) a0 a1 a2 H (retF v H1)) : Ret Try.prog 30 [a0, a1, a2] H v H1 :=
  ret_mk (an := an30) hm Try.call30 Try.func30 rfl wf30 hd hn hb (Eq.mpr (tie30 (real Try.prog) a0 a1 a2 H (retF v H1)) h)
def an32 : An := { imm := [4, 5, 6, 7], jn := [(3, [4, 5, 6, 7, 10, 16]), (5, [4, 5, 6, 7, 10, 36])], lp := [], loud := [23, 34], ord := [] }
def vc32 (C : Cb) (a0 a1 a2 a3 : V) (H : Hp) (R : List V → Hp → Prop) : Prop :=
 C.aBx true 7 a0.nod H fun v1 H2 =>
 C.aBx true 4 a1.nod H2 fun v3 H4 =>
 C.aBx true 1 a2.nod H4 fun v5 H6 =>
 C.aBx true 1 a3.nod H6 fun v7 H8 =>
 C.aLd 4 true false v3.nod H8 fun v9 H10 =>
 C.aLd 7 true false v1.nod H10 fun v11 H12 =>
 C.aBS 7 1 (V.agg [(I 0), (I 0), (I 0), (I 0), (V.arr [] .full), (V.arr [] .full), (V.arr [] .full)]) [(0, v11.nod)] fun v13 =>
 C.callE 57 [v9.nod, v13.nod] H12 fun v14 H15 =>
 Jn (fun l16 H17 =>
 aCond (l16.getD 5 .junk).nod (
 R [(V.arr [] .full), (l16.getD 4 .junk).nod] H17) (
 Jn (fun l19 H20 =>
 aCond (l19.getD 5 .junk).nod (
 R [(V.arr [] .full), (I 2)] H20) (
 C.aBin (Try.prog.underlying 29) .neq (l19.getD 4 .junk).nod.nod (I 0) fun v22 =>
 aCond v22.nod (
 R [(V.arr [] .full), (l19.getD 4 .junk).nod] H20) (
 C.aFA 0 1 false (l19.getD 1 .junk).nod fun v23 =>
 C.aLd 1 false false v23.nod H20 fun v24 H25 =>
 C.callE 58 [v24.nod, (V.fn 63 [(l19.getD 0 .junk).nod, (l19.getD 1 .junk).nod, (l19.getD 2 .junk).nod, (l19.getD 3 .junk).nod])] H25 fun v26 H27 =>
 R [v26, (I 0)] H27)))
 (fun R21 =>
 C.aLd 1 false false (l16.getD 2 .junk).nod H17 fun v28 H29 =>
 C.aFA 6 1 false (l16.getD 0 .junk).nod fun v30 =>
 C.aLd 1 false false v30.nod H29 fun v31 H32 =>
 C.aLen v31.nod fun v33 =>
 C.aBin (Try.prog.underlying 3) .sub v33.nod (I 1) fun v34 =>
 C.call 45 [v28.nod, (I 0), v34.nod] H32 fun v35 H36 =>
 C.aUn .not v35.nod fun v37 =>
 Jv (fun v38 H39 =>
 R21 [(l16.getD 0 .junk), (l16.getD 1 .junk), (l16.getD 2 .junk), (l16.getD 3 .junk), (l16.getD 4 .junk), v38] H39)
 (fun R40 =>
 aG v37.nod false (
 C.aLd 1 false false (l16.getD 3 .junk).nod H36 fun v41 H42 =>
 C.aFA 6 1 false (l16.getD 0 .junk).nod fun v43 =>
 C.aLd 1 false false v43.nod H42 fun v44 H45 =>
 C.aLd 1 false false (l16.getD 2 .junk).nod H45 fun v46 H47 =>
 C.aIx 1 v44.nod v46.nod fun v48 =>
 C.aLd 1 false false v48.nod H47 fun v49 H50 =>
 C.aLen v49.nod fun v51 =>
 C.aBin (Try.prog.underlying 3) .sub v51.nod (I 1) fun v52 =>
 C.call 45 [v41.nod, (I 0), v52.nod] H50 fun v53 H54 =>
 C.aUn .not v53.nod fun v55 =>
 R40 v55.nod H54) (
 R40 (B true) H36)))))
 (fun R18 =>
 C.aBin (Try.prog.underlying 29) .eql v14.nod.nod (I 2) fun v56 =>
 R18 [v1, v3, v5, v7, v14, v56] H15)
theorem wf32 : (Nat.ble 4 Try.f32.ntmps && wfC an32 Try.f32.ntmps (Try.f32.body.getD .skip)) = true := by kernel_rfl
theorem tie32 (C : Cb) (a0 a1 a2 a3 : V) (H : Hp) (R : List V → Hp → Prop) : wpG Try.prog C an32 (Try.f32.body.getD .skip) (argF [a0, a1, a2, a3]) H (retG Try.prog C Try.f32 R) (fun _ _ _ => False) (retG Try.prog C Try.f32 R) = vc32 C a0 a1 a2 a3 H R := by kernel_rfl
theorem mk32 (a0 a1 a2 a3 : V) {H : Hp} {v : V} {H1 : Hp} (hd : v.Nd) (hn : H.length ≤ H1.length) (hb : H1 = H ∨ ∀ (b : Nat) (blk : Blk), H1[b]? = some blk → H[b]? = some blk ∨ BelB H1.length blk) (h : vc32 (real Try.prog) a0 a1 a2 a3 H (retF v H1)) : Ret Try.prog 32 [a0, a1, a2, a3] H v H1 :=
  ret_mk (an := an32) hm Try.call32 Try.func32 rfl wf32 hd hn hb (Eq.mpr (tie32 (real Try.prog) a0 a1 a2 a3 H (retF v H1)) h)
def an33 : An := { imm := [], jn := [(7, [0, 1, 5, 6, 7])], lp := [(2, [0, 1, 5]), (6, [0, 1, 5, 6, 7])], loud := [], ord := [] }
def vc33 (C : Cb) (a0 a1 : V) (H : Hp) (R : List V → Hp → Prop) : Prop :=
 LoopA (fun l1 H2 K3 =>
 C.aLen (l1.getD 0 .junk).nod.nod fun v4 =>
 C.aBin (Try.prog.underlying 3) .lss (l1.getD 2 .junk).nod.nod v4.nod fun v5 =>
 aCond v5.nod (
 LoopA (fun l6 H7 K8 =>
 C.aLen (l6.getD 1 .junk).nod.nod fun v9 =>
 C.aBin (Try.prog.underlying 3) .lss (l6.getD 4 .junk).nod.nod v9.nod fun v10 =>
 aCond v10.nod (
 Jn (fun l11 H12 =>
 C.aBin (Try.prog.underlying 3) .add (l11.getD 4 .junk).nod.nod (I 1) fun v14 =>
 K8 [(l11.getD 0 .junk), (l11.getD 1 .junk), (l11.getD 2 .junk), (l11.getD 3 .junk), v14] H12)
 (fun R13 =>
 Jv (fun v15 H16 =>
 R13 [(l6.getD 0 .junk), (l6.getD 1 .junk), (l6.getD 2 .junk), v15, (l6.getD 4 .junk)] H16)
 (fun R17 =>
 aG (l6.getD 3 .junk).nod.nod false (
 C.aIx 1 (l6.getD 1 .junk).nod.nod (l6.getD 4 .junk).nod.nod fun v18 =>
 C.aLd 1 false false v18.nod H7 fun v19 H20 =>
 C.aIx 1 (l6.getD 0 .junk).nod.nod (l6.getD 2 .junk).nod.nod fun v21 =>
 C.aLd 1 false false v21.nod H20 fun v22 H23 =>
 C.aBin (Try.prog.underlying 3) .eql v19.nod v22.nod fun v24 =>
 R17 v24.nod H23) (
 R17 (B true) H7)))) (
 C.aUn .not (l6.getD 3 .junk).nod.nod fun v25 =>
 aCond v25.nod (
 R [(B false)] H7) (
 C.aBin (Try.prog.underlying 3) .add (l6.getD 2 .junk).nod.nod (I 1) fun v26 =>
 K3 [(l6.getD 0 .junk), (l6.getD 1 .junk), v26] H7)))
 [(l1.getD 0 .junk), (l1.getD 1 .junk), (l1.getD 2 .junk), (B false), (I 0)] H2) (
 R [(B true)] H2))
 [a0, a1, (I 0)] H
theorem wf33 : (Nat.ble 2 Try.f33.ntmps && wfC an33 Try.f33.ntmps (Try.f33.body.getD .skip)) = true := by kernel_rfl
theorem tie33 (C : Cb) (a0 a1 : V) (H : Hp) (R : List V → Hp → Prop) : wpG Try.prog C an33 (Try.f33.body.getD .skip) (argF [a0, a1]) H (retG Try.prog C Try.f33 R) (fun _ _ _ => False) (retG Try.prog C Try.f33 R) = vc33 C a0 a1 H R := by kernel_rfl
theorem mk33 (a0 a1 : V) {H : Hp} {v : V} {H1 : Hp} (hd : v.Nd) (hn : H.length ≤ H1.length) (hb : H1 = H ∨ ∀ (b : Nat) (blk : Blk), H1[b]? = some blk → H[b]? = some blk ∨ BelB H1.length blk) (h : vc33 (real Try.prog) a0 a1 H (retF v H1)) : Ret Try.prog 33 [a0, a1] H v H1 :=
  ret_mk (an := an33) hm Try.call33 Try.func33 rfl wf33 hd hn hb (Eq.mpr (tie33 (real Try.prog) a0 a1 H (retF v H1)) h)
def an42 : An := { imm := [2, 6], jn := [(5, [1, 6, 8, 9, 10, 22])], lp := [(2, [1, 8, 9, 10])], loud := [22], ord := [] }
def vc42 (C : Cb) (a0 a1 : V) (H : Hp) (R : List V → Hp → Prop) : Prop :=
 C.aBx true 7 a0.nod H fun v1 H2 =>
 C.aFA 5 1 false v1.nod fun v3 =>
 C.aLd 1 false false v3.nod H2 fun v4 H5 =>
 C.aLen v4.nod fun v6 =>
 LoopA (fun l7 H8 K9 =>
 C.aBin (Try.prog.underlying 3) .lss (l7.getD 3 .junk).nod (l7.getD 2 .junk).nod fun v10 =>
 aCond v10.nod (
 C.aIx 4 (l7.getD 1 .junk).nod (l7.getD 3 .junk).nod fun v11 =>
 C.aLd 4 true false v11.nod H8 fun v12 H13 =>
 C.aBx true 4 v12.nod H13 fun v14 H15 =>
 Jn (fun l16 H17 =>
 aCond (l16.getD 5 .junk).nod (
 C.aFA 3 1 false (l16.getD 1 .junk).nod fun v19 =>
 C.aLd 1 false false v19.nod H17 fun v20 H21 =>
 R [v20] H21) (
 C.aBin (Try.prog.underlying 3) .add (l16.getD 4 .junk).nod (I 1) fun v22 =>
 K9 [(l16.getD 0 .junk), (l16.getD 2 .junk), (l16.getD 3 .junk), v22.nod] H17))
 (fun R18 =>
 C.aFA 0 1 false v14.nod fun v23 =>
 C.aLd 1 false false v23.nod H15 fun v24 H25 =>
 C.aBin (Try.prog.underlying 3) .rem (l7.getD 0 .junk).nod.nod v24.nod fun v26 =>
 C.aFA 1 1 false v14.nod fun v27 =>
 C.aLd 1 false false v27.nod H25 fun v28 H29 =>
 C.aFA 2 1 false v14.nod fun v30 =>
 C.aLd 1 false false v30.nod H29 fun v31 H32 =>
 C.call 45 [v26.nod, v28.nod, v31.nod] H32 fun v33 H34 =>
 R18 [(l7.getD 0 .junk), v14, (l7.getD 1 .junk), (l7.getD 2 .junk), (l7.getD 3 .junk), v33] H34)) (
 R [(I 0)] H8))
 [a1, v4, v6, (I 0)] H5
theorem wf42 : (Nat.ble 2 Try.f42.ntmps && wfC an42 Try.f42.ntmps (Try.f42.body.getD .skip)) = true := by kernel_rfl
theorem tie42 (C : Cb) (a0 a1 : V) (H : Hp) (R : List V → Hp → Prop) : wpG Try.prog C an42 (Try.f42.body.getD .skip) (argF [a0, a1]) H (retG Try.prog C Try.f42 R) (fun _ _ _ => False) (retG Try.prog C Try.f42 R) = vc42 C a0 a1 H R := by kernel_rfl
theorem mk42 (a0 a1 : V) {H : Hp} {v : V} {H1 : Hp} (hd : v.Nd) (hn : H.length ≤ H1.length) (hb : H1 = H ∨ ∀ (b : Nat) (blk : Blk), H1[b]? = some blk → H[b]? = some blk ∨ BelB H1.length blk) (h : vc42 (real Try.prog) a0 a1 H (retF v H1)) : Ret Try.prog 42 [a0, a1] H v H1 :=
  ret_mk (an := an42) hm Try.call42 Try.func42 rfl wf42 hd hn hb (Eq.mpr (tie42 (real Try.prog) a0 a1 H (retF v H1)) h)
end Go.Proofs.Ytgodfjbmblghnaa

set_option linter.unusedVariables false
set_option maxRecDepth 20000
set_option maxHeartbeats 4000000
namespace Go.Proofs.Ytgodfjbmblghnaa
open Go Go.Ab Go.Proofs
def an43 : An := { imm := [2, 3, 6], jn := [(2, [2, 3, 22]), (7, [2, 3, 5, 6]), (8, [2, 3, 5, 62])], lp := [(4, [2, 3, 5])], loud := [], ord := [] }
def vc43 (C : Cb) (a0 a1 : V) (H : Hp) (R : List V → Hp → Prop) : Prop :=
 C.aBx true 7 a0.nod H fun v1 H2 =>
 C.aBx true 2 a1.nod H2 fun v3 H4 =>
 Jn (fun l5 H6 =>
 aCond (l5.getD 2 .junk).nod (
 R [(B false)] H6) (
 LoopA (fun l8 H9 K10 =>
 C.aFA 1 1 false (l8.getD 1 .junk).nod fun v11 =>
 C.aLd 1 false false v11.nod H9 fun v12 H13 =>
 C.aLen v12.nod fun v14 =>
 C.aBin (Try.prog.underlying 3) .lss (l8.getD 2 .junk).nod.nod v14.nod fun v15 =>
 aCond v15.nod (
 Jn (fun l16 H17 =>
 Jn (fun l19 H20 =>
 aCond (l19.getD 3 .junk).nod (
 R [(B false)] H20) (
 C.aBin (Try.prog.underlying 3) .add (l19.getD 2 .junk).nod.nod (I 1) fun v22 =>
 K10 [(l19.getD 0 .junk), (l19.getD 1 .junk), v22] H20))
 (fun R21 =>
 C.aFA 0 1 false (l16.getD 3 .junk).nod fun v23 =>
 C.aLd 1 false false v23.nod H17 fun v24 H25 =>
 C.aFA 1 1 false (l16.getD 0 .junk).nod fun v26 =>
 C.aLd 1 false false v26.nod H25 fun v27 H28 =>
 C.callE 70 [v24.nod, v27.nod] H28 fun v29 H30 =>
 C.aUn .not v29.nod fun v31 =>
 Jv (fun v32 H33 =>
 Jv (fun v44 H45 =>
 Jv (fun v56 H57 =>
 R21 [(l16.getD 0 .junk), (l16.getD 1 .junk), (l16.getD 2 .junk), v56] H57)
 (fun R58 =>
 aG v44.nod false (
 C.aFA 3 1 false (l16.getD 3 .junk).nod fun v59 =>
 C.aLd 1 false false v59.nod H45 fun v60 H61 =>
 C.callE 71 [v60.nod] H61 fun v62 H63 =>
 C.aUn .not v62.nod fun v64 =>
 R58 v64.nod H63) (
 R58 (B true) H45)))
 (fun R46 =>
 aG v32.nod false (
 C.aFA 2 1 false (l16.getD 3 .junk).nod fun v47 =>
 C.aLd 1 false false v47.nod H33 fun v48 H49 =>
 C.aFA 3 1 false (l16.getD 0 .junk).nod fun v50 =>
 C.aLd 1 false false v50.nod H49 fun v51 H52 =>
 C.callE 70 [v48.nod, v51.nod] H52 fun v53 H54 =>
 C.aUn .not v53.nod fun v55 =>
 R46 v55.nod H54) (
 R46 (B true) H33)))
 (fun R34 =>
 aG v31.nod false (
 C.aFA 1 1 false (l16.getD 3 .junk).nod fun v35 =>
 C.aLd 1 false false v35.nod H30 fun v36 H37 =>
 C.aFA 2 1 false (l16.getD 0 .junk).nod fun v38 =>
 C.aLd 1 false false v38.nod H37 fun v39 H40 =>
 C.callE 70 [v36.nod, v39.nod] H40 fun v41 H42 =>
 C.aUn .not v41.nod fun v43 =>
 R34 v43.nod H42) (
 R34 (B true) H30))))
 (fun R18 =>
 C.aFA 1 1 false (l8.getD 1 .junk).nod fun v65 =>
 C.aLd 1 false false v65.nod H13 fun v66 H67 =>
 C.aIx 4 v66.nod (l8.getD 2 .junk).nod.nod fun v68 =>
 C.aLd 4 true false v68.nod H67 fun v69 H70 =>
 C.aBx true 4 v69.nod H70 fun v71 H72 =>
 R18 [(l8.getD 0 .junk), (l8.getD 1 .junk), (l8.getD 2 .junk), v71] H72)) (
 R [(B true)] H13))
 [(l5.getD 0 .junk), (l5.getD 1 .junk), (I 0)] H6))
 (fun R7 =>
 C.aFA 0 1 false v3.nod fun v73 =>
 C.aLd 1 false false v73.nod H4 fun v74 H75 =>
 C.aBin (Try.prog.underlying 3) .lss v74.nod (I 0) fun v76 =>
 Jv (fun v77 H78 =>
 Jv (fun v87 H88 =>
 R7 [v1, v3, v87] H88)
 (fun R89 =>
 aG v77.nod false (
 C.aFA 1 1 false v3.nod fun v90 =>
 C.aLd 1 false false v90.nod H78 fun v91 H92 =>
 C.aLen v91.nod fun v93 =>
 C.aBin (Try.prog.underlying 3) .gtr v93.nod (I 60) fun v94 =>
 R89 v94.nod H92) (
 R89 (B true) H78)))
 (fun R79 =>
 aG v76.nod false (
 C.aFA 0 1 false v3.nod fun v80 =>
 C.aLd 1 false false v80.nod H75 fun v81 H82 =>
 C.aFA 1 1 false v1.nod fun v83 =>
 C.aLd 1 false false v83.nod H82 fun v84 H85 =>
 C.aBin (Try.prog.underlying 3) .geq v81.nod v84.nod fun v86 =>
 R79 v86.nod H85) (
 R79 (B true) H75)))
theorem wf43 : (Nat.ble 2 Try.f43.ntmps && wfC an43 Try.f43.ntmps (Try.f43.body.getD .skip)) = true := by kernel_rfl
theorem tie43 (C : Cb) (a0 a1 : V) (H : Hp) (R : List V → Hp → Prop) : wpG Try.prog C an43 (Try.f43.body.getD .skip) (argF [a0, a1]) H (retG Try.prog C Try.f43 R) (fun _ _ _ => False) (retG Try.prog C Try.f43 R) = vc43 C a0 a1 H R := by kernel_rfl
theorem mk43 (a0 a1 : V) {H : Hp} {v : V} {H1 : Hp} (hd : v.Nd) (hn : H.length ≤ H1.length) (hb : H1 = H ∨ ∀ (b : Nat) (blk : Blk), H1[b]? = some blk → H[b]? = some blk ∨ BelB H1.length blk) (h : vc43 (real Try.prog) a0 a1 H (retF v H1)) : Ret Try.prog 43 [a0, a1] H v H1 :=
  ret_mk (an := an43) hm Try.call43 Try.func43 rfl wf43 hd hn hb (Eq.mpr (tie43 (real Try.prog) a0 a1 H (retF v H1)) h)
def an44 : An := { imm := [2, 3, 9], jn := [(2, [2, 3, 36]), (7, [2, 3, 5, 6, 7, 8]), (9, [2, 3, 5, 6, 7, 8, 9]), (13, [2, 3, 5, 6, 7, 8, 9]), (15, [2, 3, 5, 6, 7, 8, 9])], lp := [(6, [2, 3, 5, 6, 7, 8])], loud := [], ord := [] }
def vc44 (C : Cb) (a0 a1 : V) (H : Hp) (R : List V → Hp → Prop) : Prop :=
 C.aBx true 7 a0.nod H fun v1 H2 =>
 C.aBx true 3 a1.nod H2 fun v3 H4 =>
 Jn (fun l5 H6 =>
 aCond (l5.getD 2 .junk).nod (
 R [(B false)] H6) (
 LoopA (fun l8 H9 K10 =>
 C.aFA 2 1 false (l8.getD 1 .junk).nod fun v11 =>
 C.aLd 1 false false v11.nod H9 fun v12 H13 =>
 C.aLen v12.nod fun v14 =>
 C.aBin (Try.prog.underlying 3) .lss (l8.getD 5 .junk).nod.nod v14.nod fun v15 =>
 aCond v15.nod (
 Jn (fun l16 H17 =>
 C.aBin (Try.prog.underlying 3) .add (l16.getD 5 .junk).nod.nod (I 1) fun v19 =>
 K10 [(l16.getD 0 .junk), (l16.getD 1 .junk), (l16.getD 2 .junk), (l16.getD 3 .junk), (l16.getD 4 .junk), v19] H17)
 (fun R18 =>
 Jn (fun l20 H21 =>
 C.aLd 7 true false (l20.getD 0 .junk).nod H21 fun v23 H24 =>
 C.aLd 4 true false (l20.getD 6 .junk).nod H24 fun v25 H26 =>
 C.aFA 1 1 false (l20.getD 1 .junk).nod fun v27 =>
 C.aLd 1 false false v27.nod H26 fun v28 H29 =>
 C.callE 72 [v23.nod, v25.nod, v28.nod] H29 fun v30 H31 =>
 C.aUn .not v30.nod fun v32 =>
 aCond v32.nod (
 R [(B false)] H31) (
 Jn (fun l33 H34 =>
 Jn (fun l36 H37 =>
 Jv (fun v39 H40 =>
 Jv (fun v46 H47 =>
 Jv (fun v53 H54 =>
 R18 [(l36.getD 0 .junk), (l36.getD 1 .junk), v53, (l36.getD 3 .junk), (l36.getD 4 .junk), (l36.getD 5 .junk)] H54)
 (fun R55 =>
 aG v46.nod false (
 C.aFA 0 1 false (l36.getD 6 .junk).nod fun v56 =>
 C.aLd 1 false false v56.nod H47 fun v57 H58 =>
 C.aBin (Try.prog.underlying 57) .eql v57.nod (I 3) fun v59 =>
 R55 v59.nod H58) (
 R55 (B true) H47)))
 (fun R48 =>
 aG v39.nod false (
 C.aFA 0 1 false (l36.getD 6 .junk).nod fun v49 =>
 C.aLd 1 false false v49.nod H40 fun v50 H51 =>
 C.aBin (Try.prog.underlying 57) .eql v50.nod (I 2) fun v52 =>
 R48 v52.nod H51) (
 R48 (B true) H40)))
 (fun R41 =>
 aG (l36.getD 2 .junk).nod.nod false (
 C.aFA 0 1 false (l36.getD 6 .junk).nod fun v42 =>
 C.aLd 1 false false v42.nod H37 fun v43 H44 =>
 C.aBin (Try.prog.underlying 57) .eql v43.nod (I 1) fun v45 =>
 R41 v45.nod H44) (
 R41 (B true) H37)))
 (fun R38 =>
 C.aFA 0 1 false (l33.getD 6 .junk).nod fun v60 =>
 C.aLd 1 false false v60.nod H34 fun v61 H62 =>
 C.aBin (Try.prog.underlying 57) .eql v61.nod (I 4) fun v63 =>
 aCond v63.nod (
 C.aBin (Try.prog.underlying 3) .add (l33.getD 4 .junk).nod.nod (I 1) fun v64 =>
 R38 [(l33.getD 0 .junk), (l33.getD 1 .junk), (l33.getD 2 .junk), (l33.getD 3 .junk), v64, (l33.getD 5 .junk), (l33.getD 6 .junk)] H62) (
 R38 [(l33.getD 0 .junk), (l33.getD 1 .junk), (l33.getD 2 .junk), (l33.getD 3 .junk), (l33.getD 4 .junk), (l33.getD 5 .junk), (l33.getD 6 .junk)] H62)))
 (fun R35 =>
 C.aFA 0 1 false (l20.getD 6 .junk).nod fun v65 =>
 C.aLd 1 false false v65.nod H31 fun v66 H67 =>
 C.aBin (Try.prog.underlying 57) .eql v66.nod (I 3) fun v68 =>
 aCond v68.nod (
 C.aBin (Try.prog.underlying 3) .add (l20.getD 3 .junk).nod.nod (I 1) fun v69 =>
 R35 [(l20.getD 0 .junk), (l20.getD 1 .junk), (l20.getD 2 .junk), v69, (l20.getD 4 .junk), (l20.getD 5 .junk), (l20.getD 6 .junk)] H67) (
 R35 [(l20.getD 0 .junk), (l20.getD 1 .junk), (l20.getD 2 .junk), (l20.getD 3 .junk), (l20.getD 4 .junk), (l20.getD 5 .junk), (l20.getD 6 .junk)] H67))))
 (fun R22 =>
 C.aFA 2 1 false (l8.getD 1 .junk).nod fun v70 =>
 C.aLd 1 false false v70.nod H13 fun v71 H72 =>
 C.aIx 4 v71.nod (l8.getD 5 .junk).nod.nod fun v73 =>
 C.aLd 4 true false v73.nod H72 fun v74 H75 =>
 C.aBx true 4 v74.nod H75 fun v76 H77 =>
 R22 [(l8.getD 0 .junk), (l8.getD 1 .junk), (l8.getD 2 .junk), (l8.getD 3 .junk), (l8.getD 4 .junk), (l8.getD 5 .junk), v76] H77))) (
 Jv (fun v78 H79 =>
 Jv (fun v82 H83 =>
 R [v82] H83)
 (fun R84 =>
 aG v78.nod true (
 C.aBin (Try.prog.underlying 3) .lss (l8.getD 4 .junk).nod.nod (I 2) fun v85 =>
 R84 v85.nod H79) (
 R84 (B false) H79)))
 (fun R80 =>
 aG (l8.getD 2 .junk).nod.nod true (
 C.aBin (Try.prog.underlying 3) .lss (l8.getD 3 .junk).nod.nod (I 2) fun v81 =>
 R80 v81.nod H13) (
 R80 (B false) H13))))
 [(l5.getD 0 .junk), (l5.getD 1 .junk), (B false), (I 0), (I 0), (I 0)] H6))
 (fun R7 =>
 C.aFA 1 1 false v3.nod fun v86 =>
 C.aLd 1 false false v86.nod H4 fun v87 H88 =>
 C.aBin (Try.prog.underlying 3) .lss v87.nod (I 0) fun v89 =>
 Jv (fun v90 H91 =>
 Jv (fun v97 H98 =>
 Jv (fun v107 H108 =>
 Jv (fun v115 H116 =>
 R7 [v1, v3, v115] H116)
 (fun R117 =>
 aG v107.nod false (
 C.aFA 2 1 false v3.nod fun v118 =>
 C.aLd 1 false false v118.nod H108 fun v119 H120 =>
 C.aLen v119.nod fun v121 =>
 C.aBin (Try.prog.underlying 3) .gtr v121.nod (I 10) fun v122 =>
 R117 v122.nod H120) (
 R117 (B true) H108)))
 (fun R109 =>
 aG v97.nod false (
 C.aFA 2 1 false v3.nod fun v110 =>
 C.aLd 1 false false v110.nod H98 fun v111 H112 =>
 C.aLen v111.nod fun v113 =>
 C.aBin (Try.prog.underlying 3) .lss v113.nod (I 1) fun v114 =>
 R109 v114.nod H112) (
 R109 (B true) H98)))
 (fun R99 =>
 aG v90.nod false (
 C.aFA 1 1 false v3.nod fun v100 =>
 C.aLd 1 false false v100.nod H91 fun v101 H102 =>
 C.aFA 0 1 false v3.nod fun v103 =>
 C.aLd 1 false false v103.nod H102 fun v104 H105 =>
 C.aBin (Try.prog.underlying 3) .gtr v101.nod v104.nod fun v106 =>
 R99 v106.nod H105) (
 R99 (B true) H91)))
 (fun R92 =>
 aG v89.nod false (
 C.aFA 1 1 false v3.nod fun v93 =>
 C.aLd 1 false false v93.nod H88 fun v94 H95 =>
 C.aBin (Try.prog.underlying 3) .eql v94.nod (I 1) fun v96 =>
 R92 v96.nod H95) (
 R92 (B true) H88)))
theorem wf44 : (Nat.ble 2 Try.f44.ntmps && wfC an44 Try.f44.ntmps (Try.f44.body.getD .skip)) = true := by kernel_rfl
theorem tie44 (C : Cb) (a0 a1 : V) (H : Hp) (R : List V → Hp → Prop) : wpG Try.prog C an44 (Try.f44.body.getD .skip) (argF [a0, a1]) H (retG Try.prog C Try.f44 R) (fun _ _ _ => False) (retG Try.prog C Try.f44 R) = vc44 C a0 a1 H R := by kernel_rfl
theorem mk44 (a0 a1 : V) {H : Hp} {v : V} {H1 : Hp} (hd : v.Nd) (hn : H.length ≤ H1.length) (hb : H1 = H ∨ ∀ (b : Nat) (blk : Blk), H1[b]? = some blk → H[b]? = some blk ∨ BelB H1.length blk) (h : vc44 (real Try.prog) a0 a1 H (retF v H1)) : Ret Try.prog 44 [a0, a1] H v H1 :=
  ret_mk (an := an44) hm Try.call44 Try.func44 rfl wf44 hd hn hb (Eq.mpr (tie44 (real Try.prog) a0 a1 H (retF v H1)) h)
def an45 : An := { imm := [], jn := [], lp := [], loud := [], ord := [] }
def vc45 (C : Cb) (a0 a1 a2 : V) (H : Hp) (R : List V → Hp → Prop) : Prop :=
 C.aBin (Try.prog.underlying 3) .geq a0.nod.nod a1.nod.nod fun v1 =>
 Jv (fun v2 H3 =>
 R [v2] H3)
 (fun R4 =>
 aG v1.nod true (
 C.aBin (Try.prog.underlying 3) .leq a0.nod.nod a2.nod.nod fun v5 =>
 R4 v5.nod H) (
 R4 (B false) H))
theorem wf45 : (Nat.ble 3 Try.f45.ntmps && wfC an45 Try.f45.ntmps (Try.f45.body.getD .skip)) = true := by kernel_rfl
theorem tie45 (C : Cb) (a0 a1 a2 : V) (H : Hp) (R : List V → Hp → Prop) : wpG Try.prog C an45 (Try.f45.body.getD .skip) (argF [a0, a1, a2]) H (retG Try.prog C Try.f45 R) (fun _ _ _ => False) (retG Try.prog C Try.f45 R) = vc45 C a0 a1 a2 H R := by kernel_rfl
theorem mk45 (a0 a1 a2 : V) {H : Hp} {v : V} {H1 : Hp} (hd : v.Nd) (hn : H.length ≤ H1.length) (hb : H1 = H ∨ ∀ (b : Nat) (blk : Blk), H1[b]? = some blk → H[b]? = some blk ∨ BelB H1.length blk) (h : vc45 (real Try.prog) a0 a1 a2 H (retF v H1)) : Ret Try.prog 45 [a0, a1, a2] H v H1 :=
  ret_mk (an := an45) hm Try.call45 Try.func45 rfl wf45 hd hn hb (Eq.mpr (tie45 (real Try.prog) a0 a1 a2 H (retF v H1)) h)
def an46 : An := { imm := [1, 4, 6], jn := [(5, [1, 4, 8, 9, 10, 26]), (10, [1, 8, 9, 10, 28, 29, 30, 64])], lp := [(2, [1, 8, 9, 10]), (7, [1, 8, 9, 10, 28, 29, 30])], loud := [], ord := [] }
def vc46 (C : Cb) (a0 : V) (H : Hp) (R : List V → Hp → Prop) : Prop :=
 C.aBx true 7 a0.nod H fun v1 H2 =>
 C.aFA 4 1 false v1.nod fun v3 =>
 C.aLd 1 false false v3.nod H2 fun v4 H5 =>
 C.aLen v4.nod fun v6 =>
 LoopA (fun l7 H8 K9 =>
 C.aBin (Try.prog.underlying 3) .lss (l7.getD 3 .junk).nod (l7.getD 2 .junk).nod fun v10 =>
 aCond v10.nod (
 C.aIx 2 (l7.getD 1 .junk).nod (l7.getD 3 .junk).nod fun v11 =>
 C.aLd 2 true false v11.nod H8 fun v12 H13 =>
 C.aBx true 2 v12.nod H13 fun v14 H15 =>
 Jn (fun l16 H17 =>
 aCond (l16.getD 5 .junk).nod (
 R [(B false)] H17) (
 C.aFA 1 1 false (l16.getD 1 .junk).nod fun v19 =>
 C.aLd 1 false false v19.nod H17 fun v20 H21 =>
 C.aLen v20.nod fun v22 =>
 LoopA (fun l23 H24 K25 =>
 C.aBin (Try.prog.underlying 3) .lss (l23.getD 6 .junk).nod (l23.getD 5 .junk).nod fun v26 =>
 aCond v26.nod (
 C.aIx 4 (l23.getD 4 .junk).nod (l23.getD 6 .junk).nod fun v27 =>
 C.aLd 4 true false v27.nod H24 fun v28 H29 =>
 C.aBx true 4 v28.nod H29 fun v30 H31 =>
 Jn (fun l32 H33 =>
 aCond (l32.getD 7 .junk).nod (
 R [(B false)] H33) (
 C.aBin (Try.prog.underlying 3) .add (l32.getD 6 .junk).nod (I 1) fun v35 =>
 K25 [(l32.getD 0 .junk), (l32.getD 1 .junk), (l32.getD 2 .junk), (l32.getD 3 .junk), (l32.getD 4 .junk), (l32.getD 5 .junk), v35.nod] H33))
 (fun R34 =>
 C.aFA 0 1 false v30.nod fun v36 =>
 C.aLd 1 false false v36.nod H31 fun v37 H38 =>
 C.aFA 1 1 false (l23.getD 0 .junk).nod fun v39 =>
 C.aLd 1 false false v39.nod H38 fun v40 H41 =>
 C.aBin (Try.prog.underlying 3) .sub v40.nod (I 1) fun v42 =>
 C.callE 45 [v37.nod, (I (-1)), v42.nod] H41 fun v43 H44 =>
 C.aUn .not v43.nod fun v45 =>
 Jv (fun v46 H47 =>
 Jv (fun v59 H60 =>
 Jv (fun v72 H73 =>
 R34 [(l23.getD 0 .junk), (l23.getD 1 .junk), (l23.getD 2 .junk), (l23.getD 3 .junk), (l23.getD 4 .junk), (l23.getD 5 .junk), (l23.getD 6 .junk), v72] H73)
 (fun R74 =>
 aG v59.nod false (
 C.aFA 3 1 false v30.nod fun v75 =>
 C.aLd 1 false false v75.nod H60 fun v76 H77 =>
 C.callE 73 [v76.nod] H77 fun v78 H79 =>
 C.aUn .not v78.nod fun v80 =>
 R74 v80.nod H79) (
 R74 (B true) H60)))
 (fun R61 =>
 aG v46.nod false (
 C.aFA 2 1 false v30.nod fun v62 =>
 C.aLd 1 false false v62.nod H47 fun v63 H64 =>
 C.aFA 3 1 false (l23.getD 0 .junk).nod fun v65 =>
 C.aLd 1 false false v65.nod H64 fun v66 H67 =>
 C.aBin (Try.prog.underlying 3) .sub v66.nod (I 1) fun v68 =>
 C.callE 45 [v63.nod, (I (-1)), v68.nod] H67 fun v69 H70 =>
 C.aUn .not v69.nod fun v71 =>
 R61 v71.nod H70) (
 R61 (B true) H47)))
 (fun R48 =>
 aG v45.nod false (
 C.aFA 1 1 false v30.nod fun v49 =>
 C.aLd 1 false false v49.nod H44 fun v50 H51 =>
 C.aFA 2 1 false (l23.getD 0 .junk).nod fun v52 =>
 C.aLd 1 false false v52.nod H51 fun v53 H54 =>
 C.aBin (Try.prog.underlying 3) .sub v53.nod (I 1) fun v55 =>
 C.callE 45 [v50.nod, (I (-1)), v55.nod] H54 fun v56 H57 =>
 C.aUn .not v56.nod fun v58 =>
 R48 v58.nod H57) (
 R48 (B true) H44)))) (
 C.aBin (Try.prog.underlying 3) .add (l23.getD 3 .junk).nod (I 1) fun v81 =>
 K9 [(l23.getD 0 .junk), (l23.getD 1 .junk), (l23.getD 2 .junk), v81.nod] H24))
 [(l16.getD 0 .junk), (l16.getD 2 .junk), (l16.getD 3 .junk), (l16.getD 4 .junk), v20, v22, (I 0)] H21))
 (fun R18 =>
 C.aFA 0 1 false v14.nod fun v82 =>
 C.aLd 1 false false v82.nod H15 fun v83 H84 =>
 C.aFA 1 1 false (l7.getD 0 .junk).nod fun v85 =>
 C.aLd 1 false false v85.nod H84 fun v86 H87 =>
 C.aBin (Try.prog.underlying 3) .sub v86.nod (I 1) fun v88 =>
 C.callE 45 [v83.nod, (I 0), v88.nod] H87 fun v89 H90 =>
 C.aUn .not v89.nod fun v91 =>
 Jv (fun v92 H93 =>
 R18 [(l7.getD 0 .junk), v14, (l7.getD 1 .junk), (l7.getD 2 .junk), (l7.getD 3 .junk), v92] H93)
 (fun R94 =>
 aG v91.nod false (
 C.aFA 1 1 false v14.nod fun v95 =>
 C.aLd 1 false false v95.nod H90 fun v96 H97 =>
 C.aLen v96.nod fun v98 =>
 C.aBin (Try.prog.underlying 3) .gtr v98.nod (I 60) fun v99 =>
 R94 v99.nod H97) (
 R94 (B true) H90)))) (
 R [(B true)] H8))
 [v1, v4, v6, (I 0)] H5
theorem wf46 : (Nat.ble 1 Try.f46.ntmps && wfC an46 Try.f46.ntmps (Try.f46.body.getD .skip)) = true := by kernel_rfl
theorem tie46 (C : Cb) (a0 : V) (H : Hp) (R : List V → Hp → Prop) : wpG Try.prog C an46 (Try.f46.body.getD .skip) (argF [a0]) H (retG Try.prog C Try.f46 R) (fun _ _ _ => False) (retG Try.prog C Try.f46 R) = vc46 C a0 H R := by kernel_rfl
theorem mk46 (a0 : V) {H : Hp} {v : V} {H1 : Hp} (hd : v.Nd) (hn : H.length ≤ H1.length) (hb : H1 = H ∨ ∀ (b : Nat) (blk : Blk), H1[b]? = some blk → H[b]? = some blk ∨ BelB H1.length blk) (h : vc46 (real Try.prog) a0 H (retF v H1)) : Ret Try.prog 46 [a0] H v H1 :=
  ret_mk (an := an46) hm Try.call46 Try.func46 rfl wf46 hd hn hb (Eq.mpr (tie46 (real Try.prog) a0 H (retF v H1)) h)
def an47 : An := { imm := [1, 4], jn := [(5, [1, 6, 7, 8, 43])], lp := [(2, [1, 6, 7, 8])], loud := [], ord := [] }
def vc47 (C : Cb) (a0 : V) (H : Hp) (R : List V → Hp → Prop) : Prop :=
 C.aBx true 7 a0.nod H fun v1 H2 =>
 C.aFA 5 1 false v1.nod fun v3 =>
 C.aLd 1 false false v3.nod H2 fun v4 H5 =>
 C.aLen v4.nod fun v6 =>
 LoopA (fun l7 H8 K9 =>
 C.aBin (Try.prog.underlying 3) .lss (l7.getD 3 .junk).nod (l7.getD 2 .junk).nod fun v10 =>
 aCond v10.nod (
 C.aIx 4 (l7.getD 1 .junk).nod (l7.getD 3 .junk).nod fun v11 =>
 C.aLd 4 true false v11.nod H8 fun v12 H13 =>
 C.aBx true 4 v12.nod H13 fun v14 H15 =>
 Jn (fun l16 H17 =>
 aCond (l16.getD 4 .junk).nod (
 R [(B false)] H17) (
 C.aBin (Try.prog.underlying 3) .add (l16.getD 3 .junk).nod (I 1) fun v19 =>
 K9 [(l16.getD 0 .junk), (l16.getD 1 .junk), (l16.getD 2 .junk), v19.nod] H17))
 (fun R18 =>
 C.aFA 0 1 false v14.nod fun v20 =>
 C.aLd 1 false false v20.nod H15 fun v21 H22 =>
 C.callE 45 [v21.nod, (I 1), (I 1000000)] H22 fun v23 H24 =>
 C.aUn .not v23.nod fun v25 =>
 Jv (fun v26 H27 =>
 Jv (fun v33 H34 =>
 Jv (fun v43 H44 =>
 Jv (fun v53 H54 =>
 R18 [(l7.getD 0 .junk), (l7.getD 1 .junk), (l7.getD 2 .junk), (l7.getD 3 .junk), v53] H54)
 (fun R55 =>
 aG v43.nod false (
 C.aFA 3 1 false v14.nod fun v56 =>
 C.aLd 1 false false v56.nod H44 fun v57 H58 =>
 C.aFA 3 1 false (l7.getD 0 .junk).nod fun v59 =>
 C.aLd 1 false false v59.nod H58 fun v60 H61 =>
 C.aBin (Try.prog.underlying 3) .sub v60.nod (I 1) fun v62 =>
 C.callE 45 [v57.nod, (I 0), v62.nod] H61 fun v63 H64 =>
 C.aUn .not v63.nod fun v65 =>
 R55 v65.nod H64) (
 R55 (B true) H44)))
 (fun R45 =>
 aG v33.nod false (
 C.aFA 2 1 false v14.nod fun v46 =>
 C.aLd 1 false false v46.nod H34 fun v47 H48 =>
 C.aFA 0 1 false v14.nod fun v49 =>
 C.aLd 1 false false v49.nod H48 fun v50 H51 =>
 C.aBin (Try.prog.underlying 3) .geq v47.nod v50.nod fun v52 =>
 R45 v52.nod H51) (
 R45 (B true) H34)))
 (fun R35 =>
 aG v26.nod false (
 C.aFA 1 1 false v14.nod fun v36 =>
 C.aLd 1 false false v36.nod H27 fun v37 H38 =>
 C.aFA 2 1 false v14.nod fun v39 =>
 C.aLd 1 false false v39.nod H38 fun v40 H41 =>
 C.aBin (Try.prog.underlying 3) .gtr v37.nod v40.nod fun v42 =>
 R35 v42.nod H41) (
 R35 (B true) H27)))
 (fun R28 =>
 aG v25.nod false (
 C.aFA 1 1 false v14.nod fun v29 =>
 C.aLd 1 false false v29.nod H24 fun v30 H31 =>
 C.aBin (Try.prog.underlying 3) .lss v30.nod (I 0) fun v32 =>
 R28 v32.nod H31) (
 R28 (B true) H24)))) (
 R [(B true)] H8))
 [v1, v4, v6, (I 0)] H5
theorem wf47 : (Nat.ble 1 Try.f47.ntmps && wfC an47 Try.f47.ntmps (Try.f47.body.getD .skip)) = true := by kernel_rfl
theorem tie47 (C : Cb) (a0 : V) (H : Hp) (R : List V → Hp → Prop) : wpG Try.prog C an47 (Try.f47.body.getD .skip) (argF [a0]) H (retG Try.prog C Try.f47 R) (fun _ _ _ => False) (retG Try.prog C Try.f47 R) = vc47 C a0 H R := by kernel_rfl
theorem mk47 (a0 : V) {H : Hp} {v : V} {H1 : Hp} (hd : v.Nd) (hn : H.length ≤ H1.length) (hb : H1 = H ∨ ∀ (b : Nat) (blk : Blk), H1[b]? = some blk → H[b]? = some blk ∨ BelB H1.length blk) (h : vc47 (real Try.prog) a0 H (retF v H1)) : Ret Try.prog 47 [a0] H v H1 :=
  ret_mk (an := an47) hm Try.call47 Try.func47 rfl wf47 hd hn hb (Eq.mpr (tie47 (real Try.prog) a0 H (retF v H1)) h)
def an48 : An := { imm := [], jn := [], lp := [], loud := [], ord := [] }
def vc48 (C : Cb) (a0 a1 : V) (H : Hp) (R : List V → Hp → Prop) : Prop :=
 C.callE 74 [a0.nod.nod, a1.nod.nod] H fun v1 H2 =>
 C.aBin (Try.prog.underlying 3) .geq v1.nod (I 0) fun v3 =>
 R [v3] H2
theorem wf48 : (Nat.ble 2 Try.f48.ntmps && wfC an48 Try.f48.ntmps (Try.f48.body.getD .skip)) = true := by kernel_rfl
theorem tie48 (C : Cb) (a0 a1 : V) (H : Hp) (R : List V → Hp → Prop) : wpG Try.prog C an48 (Try.f48.body.getD .skip) (argF [a0, a1]) H (retG Try.prog C Try.f48 R) (fun _ _ _ => False) (retG Try.prog C Try.f48 R) = vc48 C a0 a1 H R := by kernel_rfl
theorem mk48 (a0 a1 : V) {H : Hp} {v : V} {H1 : Hp} (hd : v.Nd) (hn : H.length ≤ H1.length) (hb : H1 = H ∨ ∀ (b : Nat) (blk : Blk), H1[b]? = some blk → H[b]? = some blk ∨ BelB H1.length blk) (h : vc48 (real Try.prog) a0 a1 H (retF v H1)) : Ret Try.prog 48 [a0, a1] H v H1 :=
  ret_mk (an := an48) hm Try.call48 Try.func48 rfl wf48 hd hn hb (Eq.mpr (tie48 (real Try.prog) a0 a1 H (retF v H1)) h)
def an49 : An := { imm := [], jn := [], lp := [], loud := [], ord := [] }
def vc49 (C : Cb) (a0 a1 : V) (H : Hp) (R : List V → Hp → Prop) : Prop :=
 C.aLd 7 true false a1.nod H fun v1 H2 =>
 C.callE 50 [v1.nod, a0.nod.nod] H2 fun v3 H4 =>
 C.aUn .not v3.nod fun v5 =>
 R [v5] H4
theorem wf49 : (Nat.ble 2 Try.f49.ntmps && wfC an49 Try.f49.ntmps (Try.f49.body.getD .skip)) = true := by kernel_rfl
theorem tie49 (C : Cb) (a0 a1 : V) (H : Hp) (R : List V → Hp → Prop) : wpG Try.prog C an49 (Try.f49.body.getD .skip) (argF [a0, a1]) H (retG Try.prog C Try.f49 R) (fun _ _ _ => False) (retG Try.prog C Try.f49 R) = vc49 C a0 a1 H R := by kernel_rfl
theorem mk49 (a0 a1 : V) {H : Hp} {v : V} {H1 : Hp} (hd : v.Nd) (hn : H.length ≤ H1.length) (hb : H1 = H ∨ ∀ (b : Nat) (blk : Blk), H1[b]? = some blk → H[b]? = some blk ∨ BelB H1.length blk) (h : vc49 (real Try.prog) a0 a1 H (retF v H1)) : Ret Try.prog 49 [a0, a1] H v H1 :=
  ret_mk (an := an49) hm Try.call49 Try.func49 rfl wf49 hd hn hb (Eq.mpr (tie49 (real Try.prog) a0 a1 H (retF v H1)) h)
def an50 : An := { imm := [2, 11], jn := [(2, [1, 2, 34]), (7, [1, 2, 6, 35, 36, 37, 74]), (14, [1, 2, 6, 7, 8, 9, 11, 35, 36, 37, 76, 77, 78, 88]), (16, [1, 2, 6, 7, 8, 9, 11, 35, 36, 37, 76, 77, 78]), (23, [1, 2, 35, 36, 37, 125])], lp := [(4, [1, 2, 35, 36, 37]), (11, [1, 2, 6, 7, 8, 9, 35, 36, 37, 76, 77, 78])], loud := [14, 64, 72], ord := [] }
def vc50 (C : Cb) (a0 a1 : V) (H : Hp) (R : List V → Hp → Prop) : Prop :=
 C.aBx true 7 a0.nod H fun v1 H2 =>
 Jn (fun l3 H4 =>
 aCond (l3.getD 2 .junk).nod (
 R [(B false)] H4) (
 C.aLen (l3.getD 0 .junk).nod.nod fun v6 =>
 LoopA (fun l7 H8 K9 =>
 C.aBin (Try.prog.underlying 3) .lss (l7.getD 4 .junk).nod (l7.getD 3 .junk).nod fun v10 =>
 aCond v10.nod (
 C.aIx 3 (l7.getD 2 .junk).nod (l7.getD 4 .junk).nod fun v11 =>
 C.aLd 3 true false v11.nod H8 fun v12 H13 =>
 C.aBx false 3 (V.agg [(I 0), (I 0), (V.arr [] .full)]) H13 fun v14 H15 =>
 C.aSt 3 v14.nod v12 H15 fun v16 H17 =>
 Jn (fun l18 H19 =>
 aCond (l18.getD 6 .junk).nod (
 R [(B false)] H19) (
 C.aFA 2 1 false (l18.getD 2 .junk).nod fun v21 =>
 C.aLd 1 false false v21.nod H19 fun v22 H23 =>
 C.aLen v22.nod fun v24 =>
 LoopA (fun l25 H26 K27 =>
 C.aBin (Try.prog.underlying 3) .lss (l25.getD 11 .junk).nod (l25.getD 10 .junk).nod fun v28 =>
 aCond v28.nod (
 C.aIx 4 (l25.getD 9 .junk).nod (l25.getD 11 .junk).nod fun v29 =>
 C.aLd 4 true false v29.nod H26 fun v30 H31 =>
 C.aBx true 4 v30.nod H31 fun v32 H33 =>
 Jn (fun l34 H35 =>
 aCond (l34.getD 13 .junk).nod (
 R [(B false)] H35) (
 Jn (fun l37 H38 =>
 C.aFA 0 1 false (l37.getD 6 .junk).nod fun v40 =>
 C.aLd 1 false false v40.nod H38 fun v41 H42 =>
 C.aBin (Try.prog.underlying 57) .eql v41.nod (I 3) fun v43 =>
 aCond v43.nod (
 C.aBin (Try.prog.underlying 3) .add (l37.getD 4 .junk).nod.nod (I 1) fun v44 =>
 C.aBin (Try.prog.underlying 3) .add (l37.getD 12 .junk).nod (I 1) fun v45 =>
 K27 [(l37.getD 0 .junk), (l37.getD 1 .junk), (l37.getD 2 .junk), (l37.getD 3 .junk), v44, (l37.getD 5 .junk), (l37.getD 7 .junk), (l37.getD 8 .junk), (l37.getD 9 .junk), (l37.getD 10 .junk), (l37.getD 11 .junk), v45.nod] H42) (
 C.aBin (Try.prog.underlying 57) .eql v41.nod (I 4) fun v46 =>
 aCond v46.nod (
 C.aBin (Try.prog.underlying 3) .add (l37.getD 5 .junk).nod.nod (I 1) fun v47 =>
 C.aBin (Try.prog.underlying 3) .add (l37.getD 12 .junk).nod (I 1) fun v48 =>
 K27 [(l37.getD 0 .junk), (l37.getD 1 .junk), (l37.getD 2 .junk), (l37.getD 3 .junk), (l37.getD 4 .junk), v47, (l37.getD 7 .junk), (l37.getD 8 .junk), (l37.getD 9 .junk), (l37.getD 10 .junk), (l37.getD 11 .junk), v48.nod] H42) (
 C.aBin (Try.prog.underlying 3) .add (l37.getD 12 .junk).nod (I 1) fun v49 =>
 K27 [(l37.getD 0 .junk), (l37.getD 1 .junk), (l37.getD 2 .junk), (l37.getD 3 .junk), (l37.getD 4 .junk), (l37.getD 5 .junk), (l37.getD 7 .junk), (l37.getD 8 .junk), (l37.getD 9 .junk), (l37.getD 10 .junk), (l37.getD 11 .junk), v49.nod] H42)))
 (fun R39 =>
 Jv (fun v50 H51 =>
 Jv (fun v57 H58 =>
 Jv (fun v64 H65 =>
 R39 [(l34.getD 0 .junk), (l34.getD 1 .junk), (l34.getD 2 .junk), v64, (l34.getD 4 .junk), (l34.getD 5 .junk), (l34.getD 6 .junk), (l34.getD 7 .junk), (l34.getD 8 .junk), (l34.getD 9 .junk), (l34.getD 10 .junk), (l34.getD 11 .junk), (l34.getD 12 .junk)] H65)
 (fun R66 =>
 aG v57.nod false (
 C.aFA 0 1 false (l34.getD 6 .junk).nod fun v67 =>
 C.aLd 1 false false v67.nod H58 fun v68 H69 =>
 C.aBin (Try.prog.underlying 57) .eql v68.nod (I 3) fun v70 =>
 R66 v70.nod H69) (
 R66 (B true) H58)))
 (fun R59 =>
 aG v50.nod false (
 C.aFA 0 1 false (l34.getD 6 .junk).nod fun v60 =>
 C.aLd 1 false false v60.nod H51 fun v61 H62 =>
 C.aBin (Try.prog.underlying 57) .eql v61.nod (I 2) fun v63 =>
 R59 v63.nod H62) (
 R59 (B true) H51)))
 (fun R52 =>
 aG (l34.getD 3 .junk).nod.nod false (
 C.aFA 0 1 false (l34.getD 6 .junk).nod fun v53 =>
 C.aLd 1 false false v53.nod H35 fun v54 H55 =>
 C.aBin (Try.prog.underlying 57) .eql v54.nod (I 1) fun v56 =>
 R52 v56.nod H55) (
 R52 (B true) H35)))))
 (fun R36 =>
 C.aLd 7 true false (l25.getD 1 .junk).nod H33 fun v71 H72 =>
 C.aFA 1 1 false (l25.getD 2 .junk).nod fun v73 =>
 C.aLd 1 false false v73.nod H72 fun v74 H75 =>
 C.aBin (Try.prog.underlying 3) .neq v74.nod (I 0) fun v76 =>
 C.aLd 4 true false v32.nod H75 fun v77 H78 =>
 C.callE 75 [v71.nod, v76.nod, v77.nod] H78 fun v79 H80 =>
 C.aUn .not v79.nod fun v81 =>
 R36 [(l25.getD 0 .junk), (l25.getD 1 .junk), (l25.getD 2 .junk), (l25.getD 3 .junk), (l25.getD 4 .junk), (l25.getD 5 .junk), v32, (l25.getD 6 .junk), (l25.getD 7 .junk), (l25.getD 8 .junk), (l25.getD 9 .junk), (l25.getD 10 .junk), (l25.getD 11 .junk), v81] H80)) (
 Jn (fun l82 H83 =>
 aCond (l82.getD 5 .junk).nod (
 R [(B false)] H83) (
 C.aBin (Try.prog.underlying 3) .add (l82.getD 4 .junk).nod (I 1) fun v85 =>
 K9 [(l82.getD 0 .junk), (l82.getD 1 .junk), (l82.getD 2 .junk), (l82.getD 3 .junk), v85.nod] H83))
 (fun R84 =>
 C.aUn .not (l25.getD 3 .junk).nod.nod fun v86 =>
 Jv (fun v87 H88 =>
 Jv (fun v91 H92 =>
 R84 [(l25.getD 0 .junk), (l25.getD 1 .junk), (l25.getD 6 .junk), (l25.getD 7 .junk), (l25.getD 8 .junk), v91] H92)
 (fun R93 =>
 aG v87.nod false (
 C.aBin (Try.prog.underlying 3) .gtr (l25.getD 5 .junk).nod.nod (I 1) fun v94 =>
 R93 v94.nod H88) (
 R93 (B true) H88)))
 (fun R89 =>
 aG v86.nod false (
 C.aBin (Try.prog.underlying 3) .gtr (l25.getD 4 .junk).nod.nod (I 1) fun v90 =>
 R89 v90.nod H26) (
 R89 (B true) H26)))))
 [(l18.getD 0 .junk), (l18.getD 1 .junk), (l18.getD 2 .junk), (B false), (I 0), (I 0), (l18.getD 3 .junk), (l18.getD 4 .junk), (l18.getD 5 .junk), v22, v24, (I 0)] H23))
 (fun R20 =>
 C.aBin (Try.prog.underlying 3) .gtr (l7.getD 4 .junk).nod.nod.nod (I 0) fun v95 =>
 Jv (fun v96 H97 =>
 Jv (fun v108 H109 =>
 Jv (fun v124 H125 =>
 R20 [(l7.getD 0 .junk), (l7.getD 1 .junk), v14, (l7.getD 2 .junk), (l7.getD 3 .junk), (l7.getD 4 .junk), v124] H125)
 (fun R126 =>
 aG v108.nod false (
 C.aFA 2 1 false v14.nod fun v127 =>
 C.aLd 1 false false v127.nod H109 fun v128 H129 =>
 C.aLen v128.nod fun v130 =>
 C.call 45 [v130.nod, (I 1), (I 10)] H129 fun v131 H132 =>
 C.aUn .not v131.nod fun v133 =>
 R126 v133.nod H132) (
 R126 (B true) H109)))
 (fun R110 =>
 aG v96.nod false (
 C.aFA 1 1 false v14.nod fun v111 =>
 C.aLd 1 false false v111.nod H97 fun v112 H113 =>
 C.aBin (Try.prog.underlying 3) .neq v112.nod (I 0) fun v114 =>
 aG v114.nod true (
 C.aFA 1 1 false v14.nod fun v115 =>
 C.aLd 1 false false v115.nod H113 fun v116 H117 =>
 C.aFA 0 1 false v14.nod fun v118 =>
 C.aLd 1 false false v118.nod H117 fun v119 H120 =>
 C.call 45 [v116.nod, (I 2), v119.nod] H120 fun v121 H122 =>
 C.aUn .not v121.nod fun v123 =>
 R110 v123.nod.nod H122) (
 R110 (B false) H113)) (
 UD = UD ∧
 UD = UD ∧
 UD = UD ∧
 UD = UD ∧
 UD = UD ∧
 UD = UD ∧
 R110 (B true) H97)))
 (fun R98 =>
 aG v95.nod true (
 C.aFA 0 1 false v14.nod fun v99 =>
 C.aLd 1 false false v99.nod H17 fun v100 H101 =>
 C.aBin (Try.prog.underlying 3) .sub (l7.getD 4 .junk).nod.nod.nod (I 1) fun v102 =>
 C.aIx 3 (l7.getD 0 .junk).nod.nod v102.nod fun v103 =>
 C.aFA 0 1 false v103.nod fun v104 =>
 C.aLd 1 false false v104.nod H101 fun v105 H106 =>
 C.aBin (Try.prog.underlying 3) .leq v100.nod v105.nod fun v107 =>
 R98 v107.nod H106) (
 R98 (B false) H17)))) (
 R [(B true)] H8))
 [(l3.getD 0 .junk), (l3.getD 1 .junk), (l3.getD 0 .junk).nod, v6, (I 0)] H4))
 (fun R5 =>
 C.aLen a1.nod.nod fun v134 =>
 C.call 45 [v134.nod, (I 1), (I 200)] H2 fun v135 H136 =>
 C.aUn .not v135.nod fun v137 =>
 Jv (fun v138 H139 =>
 Jv (fun v146 H147 =>
 R5 [a1, v1, v146] H147)
 (fun R148 =>
 aG v138.nod false (
 C.aLen a1.nod.nod fun v149 =>
 C.aBin (Try.prog.underlying 3) .sub v149.nod (I 1) fun v150 =>
 C.aIx 3 a1.nod.nod v150.nod fun v151 =>
 C.aFA 0 1 false v151.nod fun v152 =>
 C.aLd 1 false false v152.nod H139 fun v153 H154 =>
 C.aFA 0 1 false v1.nod fun v155 =>
 C.aLd 1 false false v155.nod H154 fun v156 H157 =>
 C.aBin (Try.prog.underlying 3) .gtr v153.nod v156.nod fun v158 =>
 R148 v158.nod H157) (
 R148 (B true) H139)))
 (fun R140 =>
 aG v137.nod false (
 C.aIx 3 a1.nod.nod (I 0) fun v141 =>
 C.aFA 0 1 false v141.nod fun v142 =>
 C.aLd 1 false false v142.nod H136 fun v143 H144 =>
 C.aBin (Try.prog.underlying 3) .neq v143.nod (I 0) fun v145 =>
 R140 v145.nod H144) (
 R140 (B true) H136)))
theorem wf50 : (Nat.ble 2 Try.f50.ntmps && wfC an50 Try.f50.ntmps (Try.f50.body.getD .skip)) = true := by kernel_rfl
theorem tie50 (C : Cb) (a0 a1 : V) (H : Hp) (R : List V → Hp → Prop) : wpG Try.prog C an50 (Try.f50.body.getD .skip) (argF [a0, a1]) H (retG Try.prog C Try.f50 R) (fun _ _ _ => False) (retG Try.prog C Try.f50 R) = vc50 C a0 a1 H R := by kernel_rfl
theorem mk50 (a0 a1 : V) {H : Hp} {v : V} {H1 : Hp} (hd : v.Nd) (hn : H.length ≤ H1.length) (hb : H1 = H ∨ ∀ (b : Nat) (blk : Blk), H1[b]? = some blk → H[b]? = some blk ∨ BelB H1.length blk) (h : vc50 (real Try.prog) a0 a1 H (retF v H1)) : Ret Try.prog 50 [a0, a1] H v H1 :=
  ret_mk (an := an50) hm Try.call50 Try.func50 rfl wf50 hd hn hb (Eq.mpr (tie50 (real Try.prog) a0 a1 H (retF v H1)) h)
def an51 : An := { imm := [2, 3], jn := [(2, [43])], lp := [], loud := [], ord := [] }
def vc51 (C : Cb) (a0 a1 : V) (H : Hp) (R : List V → Hp → Prop) : Prop :=
 C.aBx true 7 a0.nod H fun v1 H2 =>
 C.aBx true 4 a1.nod H2 fun v3 H4 =>
 Jn (fun l5 H6 =>
 aCond (l5.getD 0 .junk).nod (
 R [(I 2)] H6) (
 R [(I 0)] H6))
 (fun R7 =>
 C.aLd 7 true false v1.nod H4 fun v8 H9 =>
 C.callE 18 [v8.nod] H9 fun v10 H11 =>
 C.aBin (Try.prog.underlying 29) .neq v10.nod (I 0) fun v12 =>
 Jv (fun v13 H14 =>
 Jv (fun v25 H26 =>
 Jv (fun v39 H40 =>
 Jv (fun v52 H53 =>
 R7 [v52] H53)
 (fun R54 =>
 aG v39.nod false (
 C.aFA 3 1 false v3.nod fun v55 =>
 C.aLd 1 false false v55.nod H40 fun v56 H57 =>
 C.aFA 2 1 false v1.nod fun v58 =>
 C.aLd 1 false false v58.nod H57 fun v59 H60 =>
 C.aBin (Try.prog.underlying 3) .sub v59.nod (I 1) fun v61 =>
 C.callE 45 [v56.nod, (I 0), v61.nod] H60 fun v62 H63 =>
 C.aUn .not v62.nod fun v64 =>
 R54 v64.nod H63) (
 R54 (B true) H40)))
 (fun R41 =>
 aG v25.nod false (
 C.aFA 2 1 false v3.nod fun v42 =>
 C.aLd 1 false false v42.nod H26 fun v43 H44 =>
 C.aFA 1 1 false v1.nod fun v45 =>
 C.aLd 1 false false v45.nod H44 fun v46 H47 =>
 C.aBin (Try.prog.underlying 3) .sub v46.nod (I 1) fun v48 =>
 C.callE 45 [v43.nod, (I 0), v48.nod] H47 fun v49 H50 =>
 C.aUn .not v49.nod fun v51 =>
 R41 v51.nod H50) (
 R41 (B true) H26)))
 (fun R27 =>
 aG v13.nod false (
 C.aFA 1 1 false v3.nod fun v28 =>
 C.aLd 1 false false v28.nod H14 fun v29 H30 =>
 C.aFA 6 1 false v1.nod fun v31 =>
 C.aLd 1 false false v31.nod H30 fun v32 H33 =>
 C.aLen v32.nod fun v34 =>
 C.aBin (Try.prog.underlying 3) .sub v34.nod (I 1) fun v35 =>
 C.callE 45 [v29.nod, (I 0), v35.nod] H33 fun v36 H37 =>
 C.aUn .not v36.nod fun v38 =>
 R27 v38.nod H37) (
 R27 (B true) H14)))
 (fun R15 =>
 aG v12.nod false (
 C.aFA 0 1 false v3.nod fun v16 =>
 C.aLd 1 false false v16.nod H11 fun v17 H18 =>
 C.aFA 0 1 false v1.nod fun v19 =>
 C.aLd 1 false false v19.nod H18 fun v20 H21 =>
 C.callE 45 [v17.nod, (I 0), v20.nod] H21 fun v22 H23 =>
 C.aUn .not v22.nod fun v24 =>
 R15 v24.nod H23) (
 R15 (B true) H11)))
theorem wf51 : (Nat.ble 2 Try.f51.ntmps && wfC an51 Try.f51.ntmps (Try.f51.body.getD .skip)) = true := by kernel_rfl
theorem tie51 (C : Cb) (a0 a1 : V) (H : Hp) (R : List V → Hp → Prop) : wpG Try.prog C an51 (Try.f51.body.getD .skip) (argF [a0, a1]) H (retG Try.prog C Try.f51 R) (fun _ _ _ => False) (retG Try.prog C Try.f51 R) = vc51 C a0 a1 H R := by kernel_rfl
theorem mk51 (a0 a1 : V) {H : Hp} {v : V} {H1 : Hp} (hd : v.Nd) (hn : H.length ≤ H1.length) (hb : H1 = H ∨ ∀ (b : Nat) (blk : Blk), H1[b]? = some blk → H[b]? = some blk ∨ BelB H1.length blk) (h : vc51 (real Try.prog) a0 a1 H (retF v H1)) : Ret Try.prog 51 [a0, a1] H v H1 :=
  ret_mk (an := an51) hm Try.call51 Try.func51 rfl wf51 hd hn hb (Eq.mpr (tie51 (real Try.prog) a0 a1 H (retF v H1)) h)
def an52 : An := { imm := [2, 3, 10], jn := [(2, [6, 7]), (8, [7, 8])], lp := [(4, [7, 8, 17, 18, 19])], loud := [], ord := [] }
def vc52 (C : Cb) (a0 a1 : V) (H : Hp) (R : List V → Hp → Prop) : Prop :=
 C.aBx true 7 a0.nod H fun v1 H2 =>
 C.aBx true 4 a1.nod H2 fun v3 H4 =>
 Jn (fun l5 H6 =>
 Jn (fun l8 H9 =>
 R [(l8.getD 1 .junk).nod, (l8.getD 0 .junk).nod] H9)
 (fun R10 =>
 C.aLen (l5.getD 0 .junk).nod.nod fun v11 =>
 LoopA (fun l12 H13 K14 =>
 C.aBin (Try.prog.underlying 3) .lss (l12.getD 4 .junk).nod (l12.getD 3 .junk).nod fun v15 =>
 aCond v15.nod (
 C.aIx 6 (l12.getD 2 .junk).nod (l12.getD 4 .junk).nod fun v16 =>
 C.aLd 6 true false v16.nod H13 fun v17 H18 =>
 C.aBx true 6 v17.nod H18 fun v19 H20 =>
 C.aFA 0 1 false v19.nod fun v21 =>
 C.aLd 1 false false v21.nod H20 fun v22 H23 =>
 C.aBS 1 1 (V.imm (.string (ByteArray.mk #[]))) [(0, v22.nod)] fun v24 =>
 C.aApp 1 16 (l12.getD 1 .junk) v24.nod fun v25 =>
 C.aBin (Try.prog.underlying 3) .add (l12.getD 4 .junk).nod (I 1) fun v26 =>
 K14 [(l12.getD 0 .junk), v25, (l12.getD 2 .junk), (l12.getD 3 .junk), v26.nod] H23) (
 R10 [(l12.getD 0 .junk), (l12.getD 1 .junk)] H13))
 [(l5.getD 1 .junk), (V.arr [] .full), (l5.getD 0 .junk).nod, v11, (I 0)] H6))
 (fun R7 =>
 C.aLd 7 true false v1.nod H4 fun v27 H28 =>
 C.aLd 4 true false v3.nod H28 fun v29 H30 =>
 C.callE 53 [v27.nod, v29.nod] H30 fun v31 H32 =>
 C.aExt 0 v31.nod.nod fun v33 =>
 C.aExt 1 v31.nod.nod fun v34 =>
 R7 [v33, v34] H32)
theorem wf52 : (Nat.ble 2 Try.f52.ntmps && wfC an52 Try.f52.ntmps (Try.f52.body.getD .skip)) = true := by kernel_rfl
theorem tie52 (C : Cb) (a0 a1 : V) (H : Hp) (R : List V → Hp → Prop) : wpG Try.prog C an52 (Try.f52.body.getD .skip) (argF [a0, a1]) H (retG Try.prog C Try.f52 R) (fun _ _ _ => False) (retG Try.prog C Try.f52 R) = vc52 C a0 a1 H R := by kernel_rfl
theorem mk52 (a0 a1 : V) {H : Hp} {v : V} {H1 : Hp} (hd : v.Nd) (hn : H.length ≤ H1.length) (hb : H1 = H ∨ ∀ (b : Nat) (blk : Blk), H1[b]? = some blk → H[b]? = some blk ∨ BelB H1.length blk) (h : vc52 (real Try.prog) a0 a1 H (retF v H1)) : Ret Try.prog 52 [a0, a1] H v H1 :=
  ret_mk (an := an52) hm Try.call52 Try.func52 rfl wf52 hd hn hb (Eq.mpr (tie52 (real Try.prog) a0 a1 H (retF v H1)) h)
def an53 : An := { imm := [2, 3, 7], jn := [], lp := [], loud := [], ord := [] }
def vc53 (C : Cb) (a0 a1 : V) (H : Hp) (R : List V → Hp → Prop) : Prop :=
 C.aBx true 7 a0.nod H fun v1 H2 =>
 C.aBx true 4 a1.nod H2 fun v3 H4 =>
 C.aBx false 1 (V.arr [] .full) H4 fun v5 H6 =>
 C.aBx false 1 (B false) H6 fun v7 H8 =>
 C.aBx false 1 (V.arr [] .full) H8 fun v9 H10 =>
 C.aLd 7 true false v1.nod H10 fun v11 H12 =>
 C.aLd 4 true false v3.nod H12 fun v13 H14 =>
 C.callE 76 [v11.nod, v13.nod] H14 fun v15 H16 =>
 C.range v15.nod 1 H16 (fun l17 H18 (D19 : Hp → (Hp → Prop) → Prop) (K20 : Bool → Hp → Prop) =>
 C.aBx true 6 (l17.getD 0 .junk).nod H18 fun v24 H25 =>
 D19 H25 fun H21 =>
 C.aFA 0 1 false v24.nod fun v26 =>
 C.aLd 1 false false v26.nod H21 fun v27 H28 =>
 C.aBin (Try.prog.underlying 9) .eql v27.nod (V.imm (.string (ByteArray.mk #[]))) fun v29 =>
 aCond v29.nod (
 C.aSt 1 v5.nod.nod (V.arr [] .full) H28 fun v30 H31 =>
 C.aSt 1 v7.nod.nod (B false) H31 fun v32 H33 =>
 K20 true H33) (
 C.aLd 1 false true v9.nod.nod H28 fun v34 H35 =>
 C.aLd 6 true false v24.nod H35 fun v36 H37 =>
 C.aBS 6 1 (V.agg [(V.imm (.string (ByteArray.mk #[]))), (I 0), (I 0), (I 0), (I 0), (I 0)]) [(0, v36.nod)] fun v38 =>
 C.aApp 6 56 v34 v38.nod fun v39 =>
 C.aSt 1 v9.nod.nod v39 H37 fun v40 H41 =>
 K20 false H41)) (fun H22 =>
 C.aLd 1 false false v9.nod.nod H22 fun v42 H43 =>
 C.aSt 1 v5.nod.nod v42 H43 fun v44 H45 =>
 C.aSt 1 v7.nod.nod (B true) H45 fun v46 H47 =>
 C.aRes 1 false v5.nod H47 fun v48 =>
 C.aRes 1 false v7.nod H47 fun v49 =>
 R [v48, v49] H47) (fun H23 =>
 C.aRes 1 false v5.nod H23 fun v50 =>
 C.aRes 1 false v7.nod H23 fun v51 =>
 R [v50, v51] H23)
theorem wf53 : (Nat.ble 2 Try.f53.ntmps && wfC an53 Try.f53.ntmps (Try.f53.body.getD .skip)) = true := by kernel_rfl
theorem tie53 (C : Cb) (a0 a1 : V) (H : Hp) (R : List V → Hp → Prop) : wpG Try.prog C an53 (Try.f53.body.getD .skip) (argF [a0, a1]) H (retG Try.prog C Try.f53 R) (fun _ _ _ => False) (retG Try.prog C Try.f53 R) = vc53 C a0 a1 H R := by kernel_rfl
theorem mk53 (a0 a1 : V) {H : Hp} {v : V} {H1 : Hp} (hd : v.Nd) (hn : H.length ≤ H1.length) (hb : H1 = H ∨ ∀ (b : Nat) (blk : Blk), H1[b]? = some blk → H[b]? = some blk ∨ BelB H1.length blk) (h : vc53 (real Try.prog) a0 a1 H (retF v H1)) : Ret Try.prog 53 [a0, a1] H v H1 :=
  ret_mk (an := an53) hm Try.call53 Try.func53 rfl wf53 hd hn hb (Eq.mpr (tie53 (real Try.prog) a0 a1 H (retF v H1)) h)
def an54 : An := { imm := [2, 3], jn := [], lp := [], loud := [], ord := [] }
def vc54 (C : Cb) (a0 a1 : V) (H : Hp) (R : List V → Hp → Prop) : Prop :=
 C.aBx true 7 a0.nod H fun v1 H2 =>
 C.aBx true 4 a1.nod H2 fun v3 H4 =>
 C.aFA 0 1 false v3.nod fun v5 =>
 C.aLd 1 false false v5.nod H4 fun v6 H7 =>
 C.aBin (Try.prog.underlying 3) .geq v6.nod (I 0) fun v8 =>
 Jv (fun v9 H10 =>
 Jv (fun v19 H20 =>
 Jv (fun v26 H27 =>
 Jv (fun v37 H38 =>
 Jv (fun v44 H45 =>
 Jv (fun v54 H55 =>
 Jv (fun v61 H62 =>
 R [v61] H62)
 (fun R63 =>
 aG v54.nod true (
 C.aFA 3 1 false v3.nod fun v64 =>
 C.aLd 1 false false v64.nod H55 fun v65 H66 =>
 C.aFA 2 1 false v1.nod fun v67 =>
 C.aLd 1 false false v67.nod H66 fun v68 H69 =>
 C.aBin (Try.prog.underlying 3) .lss v65.nod v68.nod fun v70 =>
 R63 v70.nod H69) (
 R63 (B false) H55)))
 (fun R56 =>
 aG v44.nod true (
 C.aFA 3 1 false v3.nod fun v57 =>
 C.aLd 1 false false v57.nod H45 fun v58 H59 =>
 C.aBin (Try.prog.underlying 3) .geq v58.nod (I 0) fun v60 =>
 R56 v60.nod H59) (
 R56 (B false) H45)))
 (fun R46 =>
 aG v37.nod true (
 C.aFA 2 1 false v3.nod fun v47 =>
 C.aLd 1 false false v47.nod H38 fun v48 H49 =>
 C.aFA 1 1 false v1.nod fun v50 =>
 C.aLd 1 false false v50.nod H49 fun v51 H52 =>
 C.aBin (Try.prog.underlying 3) .lss v48.nod v51.nod fun v53 =>
 R46 v53.nod H52) (
 R46 (B false) H38)))
 (fun R39 =>
 aG v26.nod true (
 C.aFA 2 1 false v3.nod fun v40 =>
 C.aLd 1 false false v40.nod H27 fun v41 H42 =>
 C.aBin (Try.prog.underlying 3) .geq v41.nod (I 0) fun v43 =>
 R39 v43.nod H42) (
 R39 (B false) H27)))
 (fun R28 =>
 aG v19.nod true (
 C.aFA 1 1 false v3.nod fun v29 =>
 C.aLd 1 false false v29.nod H20 fun v30 H31 =>
 C.aFA 6 1 false v1.nod fun v32 =>
 C.aLd 1 false false v32.nod H31 fun v33 H34 =>
 C.aLen v33.nod fun v35 =>
 C.aBin (Try.prog.underlying 3) .lss v30.nod v35.nod fun v36 =>
 R28 v36.nod H34) (
 R28 (B false) H20)))
 (fun R21 =>
 aG v9.nod true (
 C.aFA 1 1 false v3.nod fun v22 =>
 C.aLd 1 false false v22.nod H10 fun v23 H24 =>
 C.aBin (Try.prog.underlying 3) .geq v23.nod (I 0) fun v25 =>
 R21 v25.nod H24) (
 R21 (B false) H10)))
 (fun R11 =>
 aG v8.nod true (
 C.aFA 0 1 false v3.nod fun v12 =>
 C.aLd 1 false false v12.nod H7 fun v13 H14 =>
 C.aFA 0 1 false v1.nod fun v15 =>
 C.aLd 1 false false v15.nod H14 fun v16 H17 =>
 C.aBin (Try.prog.underlying 3) .leq v13.nod v16.nod fun v18 =>
 R11 v18.nod H17) (
 R11 (B false) H7))
theorem wf54 : (Nat.ble 2 Try.f54.ntmps && wfC an54 Try.f54.ntmps (Try.f54.body.getD .skip)) = true := by kernel_rfl
theorem tie54 (C : Cb) (a0 a1 : V) (H : Hp) (R : List V → Hp → Prop) : wpG Try.prog C an54 (Try.f54.body.getD .skip) (argF [a0, a1]) H (retG Try.prog C Try.f54 R) (fun _ _ _ => False) (retG Try.prog C Try.f54 R) = vc54 C a0 a1 H R := by kernel_rfl
theorem mk54 (a0 a1 : V) {H : Hp} {v : V} {H1 : Hp} (hd : v.Nd) (hn : H.length ≤ H1.length) (hb : H1 = H ∨ ∀ (b : Nat) (blk : Blk), H1[b]? = some blk → H[b]? = some blk ∨ BelB H1.length blk) (h : vc54 (real Try.prog) a0 a1 H (retF v H1)) : Ret Try.prog 54 [a0, a1] H v H1 :=
  ret_mk (an := an54) hm Try.call54 Try.func54 rfl wf54 hd hn hb (Eq.mpr (tie54 (real Try.prog) a0 a1 H (retF v H1)) h)
def an57 : An := { imm := [2, 6], jn := [(8, [2])], lp := [(2, [2, 8, 9, 10])], loud := [], ord := [] }
def vc57 (C : Cb) (a0 a1 : V) (H : Hp) (R : List V → Hp → Prop) : Prop :=
 C.aBx true 4 a0.nod H fun v1 H2 =>
 Jn (fun l3 H4 =>
 C.aFA 0 1 false (l3.getD 0 .junk).nod fun v6 =>
 C.aLd 1 false false v6.nod H4 fun v7 H8 =>
 C.aBin (Try.prog.underlying 3) .gtr v7.nod (I 20000) fun v9 =>
 aCond v9.nod (
 R [(I 4)] H8) (
 R [(I 0)] H8))
 (fun R5 =>
 C.aLen a1.nod.nod fun v10 =>
 LoopA (fun l11 H12 K13 =>
 C.aBin (Try.prog.underlying 3) .lss (l11.getD 3 .junk).nod (l11.getD 2 .junk).nod fun v14 =>
 aCond v14.nod (
 C.aIx 7 (l11.getD 1 .junk).nod (l11.getD 3 .junk).nod fun v15 =>
 C.aLd 7 true false v15.nod H12 fun v16 H17 =>
 C.aBx true 7 v16.nod H17 fun v18 H19 =>
 C.aLd 7 true false v18.nod H19 fun v20 H21 =>
 C.aLd 4 true false (l11.getD 0 .junk).nod H21 fun v22 H23 =>
 C.callE 51 [v20.nod, v22.nod] H23 fun v24 H25 =>
 C.aBin (Try.prog.underlying 29) .neq v24.nod.nod (I 0) fun v26 =>
 aCond v26.nod (
 R [v24.nod] H25) (
 C.aBin (Try.prog.underlying 3) .add (l11.getD 3 .junk).nod (I 1) fun v27 =>
 K13 [(l11.getD 0 .junk), (l11.getD 1 .junk), (l11.getD 2 .junk), v27.nod] H25)) (
 R5 [(l11.getD 0 .junk)] H12))
 [v1, a1.nod, v10, (I 0)] H2)
theorem wf57 : (Nat.ble 2 Try.f57.ntmps && wfC an57 Try.f57.ntmps (Try.f57.body.getD .skip)) = true := by kernel_rfl
theorem tie57 (C : Cb) (a0 a1 : V) (H : Hp) (R : List V → Hp → Prop) : wpG Try.prog C an57 (Try.f57.body.getD .skip) (argF [a0, a1]) H (retG Try.prog C Try.f57 R) (fun _ _ _ => False) (retG Try.prog C Try.f57 R) = vc57 C a0 a1 H R := by kernel_rfl
theorem mk57 (a0 a1 : V) {H : Hp} {v : V} {H1 : Hp} (hd : v.Nd) (hn : H.length ≤ H1.length) (hb : H1 = H ∨ ∀ (b : Nat) (blk : Blk), H1[b]? = some blk → H[b]? = some blk ∨ BelB H1.length blk) (h : vc57 (real Try.prog) a0 a1 H (retF v H1)) : Ret Try.prog 57 [a0, a1] H v H1 :=
  ret_mk (an := an57) hm Try.call57 Try.func57 rfl wf57 hd hn hb (Eq.mpr (tie57 (real Try.prog) a0 a1 H (retF v H1)) h)
def an58 : An := { imm := [], jn := [(7, [1, 5, 7, 10, 11, 20])], lp := [(3, [1, 5, 10, 11])], loud := [], ord := [] }
def vc58 (C : Cb) (a0 a1 : V) (H : Hp) (R : List V → Hp → Prop) : Prop :=
 C.aBin (Try.prog.underlying 3) .add a0.nod.nod (I 1) fun v1 =>
 LoopA (fun l2 H3 K4 =>
 C.aBin (Try.prog.underlying 3) .lss (l2.getD 3 .junk).nod (l2.getD 2 .junk).nod fun v5 =>
 aCond v5.nod (
 aCallEG C (l2.getD 0 .junk).nod.nod [(l2.getD 3 .junk).nod.nod.nod] H3 fun v6 H7 =>
 C.aExt 0 v6.nod.nod fun v8 =>
 C.aExt 1 v6.nod.nod fun v9 =>
 Jn (fun l10 H11 =>
 aCond (l10.getD 5 .junk).nod (
 C.aBS 1 1 (I 0) [(0, (l10.getD 2 .junk).nod.nod)] fun v13 =>
 C.aApp 1 8 (l10.getD 1 .junk) v13.nod fun v14 =>
 C.aBin (Try.prog.underlying 3) .add (l10.getD 4 .junk).nod (I 1) fun v15 =>
 K4 [(l10.getD 0 .junk), v14, (l10.getD 3 .junk), v15.nod] H11) (
 C.aBin (Try.prog.underlying 3) .add (l10.getD 4 .junk).nod (I 1) fun v16 =>
 K4 [(l10.getD 0 .junk), (l10.getD 1 .junk), (l10.getD 3 .junk), v16.nod] H11))
 (fun R12 =>
 R12 [(l2.getD 0 .junk), (l2.getD 1 .junk), v8, (l2.getD 2 .junk), (l2.getD 3 .junk), v9.nod] H7)) (
 R [(l2.getD 1 .junk).nod] H3))
 [a1, (V.arr [] .full), v1, (I 0)] H
theorem wf58 : (Nat.ble 2 Try.f58.ntmps && wfC an58 Try.f58.ntmps (Try.f58.body.getD .skip)) = true := by kernel_rfl
theorem tie58 (C : Cb) (a0 a1 : V) (H : Hp) (R : List V → Hp → Prop) : wpG Try.prog C an58 (Try.f58.body.getD .skip) (argF [a0, a1]) H (retG Try.prog C Try.f58 R) (fun _ _ _ => False) (retG Try.prog C Try.f58 R) = vc58 C a0 a1 H R := by kernel_rfl
theorem mk58 (a0 a1 : V) {H : Hp} {v : V} {H1 : Hp} (hd : v.Nd) (hn : H.length ≤ H1.length) (hb : H1 = H ∨ ∀ (b : Nat) (blk : Blk), H1[b]? = some blk → H[b]? = some blk ∨ BelB H1.length blk) (h : vc58 (real Try.prog) a0 a1 H (retF v H1)) : Ret Try.prog 58 [a0, a1] H v H1 :=
  ret_mk (an := an58) hm Try.call58 Try.func58 rfl wf58 hd hn hb (Eq.mpr (tie58 (real Try.prog) a0 a1 H (retF v H1)) h)
def an59 : An := { imm := [], jn := [(2, [0, 3, 7, 8])], lp := [], loud := [15], ord := [] }
def vc59 (C : Cb) (a0 a1 a2 a3 : V) (H : Hp) (R : List V → Hp → Prop) : Prop :=
 Jn (fun l1 H2 =>
 Jv (fun v4 H5 =>
 R [(l1.getD 0 .junk).nod, v4] H5)
 (fun R6 =>
 aG (l1.getD 3 .junk).nod.nod true (
 C.aLd 1 false false (l1.getD 1 .junk).nod H2 fun v7 H8 =>
 C.callE 61 [(l1.getD 2 .junk).nod.nod, v7.nod] H8 fun v9 H10 =>
 R6 v9.nod H10) (
 R6 (B false) H2)))
 (fun R3 =>
 C.aLd 7 true false a1.nod H fun v11 H12 =>
 C.aBd [(I 0), (I 0), (I 0), (I 0), (V.arr [] .full), (V.arr [] .full), (V.arr [] .full)] [(0, 7, v11.nod)] fun v13 =>
 C.aLd 4 true false a2.nod H12 fun v14 H15 =>
 C.calm 60 [v14.nod, a0.nod.nod] H15 fun v16 =>
 C.call 52 [v13.nod, v16.nod] H15 fun v17 H18 =>
 C.aExt 0 v17.nod.nod fun v19 =>
 C.aExt 1 v17.nod.nod fun v20 =>
 R3 [a0, a3, v19, v20] H18)
theorem wf59 : (Nat.ble 4 Try.f59.ntmps && wfC an59 Try.f59.ntmps (Try.f59.body.getD .skip)) = true := by kernel_rfl
theorem tie59 (C : Cb) (a0 a1 a2 a3 : V) (H : Hp) (R : List V → Hp → Prop) : wpG Try.prog C an59 (Try.f59.body.getD .skip) (argF [a0, a1, a2, a3]) H (retG Try.prog C Try.f59 R) (fun _ _ _ => False) (retG Try.prog C Try.f59 R) = vc59 C a0 a1 a2 a3 H R := by kernel_rfl
theorem mk59 (a0 a1 a2 a3 : V) {H : Hp} {v : V} {H1 : Hp} (hd : v.Nd) (hn : H.length ≤ H1.length) (hb : H1 = H ∨ ∀ (b : Nat) (blk : Blk), H1[b]? = some blk → H[b]? = some blk ∨ BelB H1.length blk) (h : vc59 (real Try.prog) a0 a1 a2 a3 H (retF v H1)) : Ret Try.prog 59 [a0, a1, a2, a3] H v H1 :=
  ret_mk (an := an59) hm Try.call59 Try.func59 rfl wf59 hd hn hb (Eq.mpr (tie59 (real Try.prog) a0 a1 a2 a3 H (retF v H1)) h)
def an60 : An := { imm := [], jn := [], lp := [], loud := [], ord := [] }
def vc60 (C : Cb) (a0 a1 : V) (H : Hp) (R : List V → Hp → Prop) : Prop :=
 C.aBx false 4 a0.nod H fun v1 H2 =>
 C.aBx false 4 (V.agg [(I 0), (I 0), (I 0), (I 0)]) H2 fun v3 H4 =>
 C.aFA 0 1 false v1.nod fun v5 =>
 C.aSt 1 v5.nod a1.nod H4 fun v6 H7 =>
 C.aLd 4 true false v1.nod H7 fun v8 H9 =>
 C.aSt 4 v3.nod v8 H9 fun v10 H11 =>
 C.aRes 4 true v3 H11 fun v12 =>
 R [v12] H11
theorem wf60 : (Nat.ble 2 Try.f60.ntmps && wfC an60 Try.f60.ntmps (Try.f60.body.getD .skip)) = true := by kernel_rfl
theorem tie60 (C : Cb) (a0 a1 : V) (H : Hp) (R : List V → Hp → Prop) : wpG Try.prog C an60 (Try.f60.body.getD .skip) (argF [a0, a1]) H (retG Try.prog C Try.f60 R) (fun _ _ _ => False) (retG Try.prog C Try.f60 R) = vc60 C a0 a1 H R := by kernel_rfl
theorem mk60 (a0 a1 : V) {H : Hp} {v : V} {H1 : Hp} (hd : v.Nd) (hn : H.length ≤ H1.length) (hb : H1 = H ∨ ∀ (b : Nat) (blk : Blk), H1[b]? = some blk → H[b]? = some blk ∨ BelB H1.length blk) (h : vc60 (real Try.prog) a0 a1 H (retF v H1)) : Ret Try.prog 60 [a0, a1] H v H1 :=
  ret_mk (an := an60) hm Try.call60 Try.func60 rfl wf60 hd hn hb (Eq.mpr (tie60 (real Try.prog) a0 a1 H (retF v H1)) h)
def an61 : An := { imm := [], jn := [(7, [0, 1, 12, 13, 24])], lp := [(4, [0, 1, 12, 13])], loud := [], ord := [] }
def vc61 (C : Cb) (a0 a1 : V) (H : Hp) (R : List V → Hp → Prop) : Prop :=
 C.aLen a0.nod.nod fun v1 =>
 C.aLen a1.nod.nod fun v2 =>
 C.aBin (Try.prog.underlying 3) .neq v1.nod v2.nod fun v3 =>
 aCond v3.nod (
 R [(B false)] H) (
 C.aLen a0.nod.nod fun v4 =>
 LoopA (fun l5 H6 K7 =>
 C.aBin (Try.prog.underlying 3) .lss (l5.getD 3 .junk).nod (l5.getD 2 .junk).nod fun v8 =>
 aCond v8.nod (
 Jn (fun l9 H10 =>
 aCond (l9.getD 4 .junk).nod (
 R [(B false)] H10) (
 C.aBin (Try.prog.underlying 3) .add (l9.getD 3 .junk).nod (I 1) fun v12 =>
 K7 [(l9.getD 0 .junk), (l9.getD 1 .junk), (l9.getD 2 .junk), v12.nod] H10))
 (fun R11 =>
 C.aIx 1 (l5.getD 0 .junk).nod.nod (l5.getD 3 .junk).nod.nod.nod fun v13 =>
 C.aLd 1 false false v13.nod H6 fun v14 H15 =>
 C.aIx 1 (l5.getD 1 .junk).nod.nod (l5.getD 3 .junk).nod.nod.nod fun v16 =>
 C.aLd 1 false false v16.nod H15 fun v17 H18 =>
 C.aBin (Try.prog.underlying 9) .neq v14.nod v17.nod fun v19 =>
 R11 [(l5.getD 0 .junk), (l5.getD 1 .junk), (l5.getD 2 .junk), (l5.getD 3 .junk), v19] H18)) (
 R [(B true)] H6))
 [a0, a1, v4, (I 0)] H)
theorem wf61 : (Nat.ble 2 Try.f61.ntmps && wfC an61 Try.f61.ntmps (Try.f61.body.getD .skip)) = true := by kernel_rfl
theorem tie61 (C : Cb) (a0 a1 : V) (H : Hp) (R : List V → Hp → Prop) : wpG Try.prog C an61 (Try.f61.body.getD .skip) (argF [a0, a1]) H (retG Try.prog C Try.f61 R) (fun _ _ _ => False) (retG Try.prog C Try.f61 R) = vc61 C a0 a1 H R := by kernel_rfl
theorem mk61 (a0 a1 : V) {H : Hp} {v : V} {H1 : Hp} (hd : v.Nd) (hn : H.length ≤ H1.length) (hb : H1 = H ∨ ∀ (b : Nat) (blk : Blk), H1[b]? = some blk → H[b]? = some blk ∨ BelB H1.length blk) (h : vc61 (real Try.prog) a0 a1 H (retF v H1)) : Ret Try.prog 61 [a0, a1] H v H1 :=
  ret_mk (an := an61) hm Try.call61 Try.func61 rfl wf61 hd hn hb (Eq.mpr (tie61 (real Try.prog) a0 a1 H (retF v H1)) h)
def an62 : An := { imm := [], jn := [(2, [0, 2, 3, 7, 8])], lp := [], loud := [17, 26], ord := [] }
def vc62 (C : Cb) (a0 a1 a2 a3 : V) (H : Hp) (R : List V → Hp → Prop) : Prop :=
 Jn (fun l1 H2 =>
 C.aLd 7 true false (l1.getD 2 .junk).nod H2 fun v4 H5 =>
 C.aBd [(I 0), (I 0), (I 0), (I 0), (V.arr [] .full), (V.arr [] .full), (V.arr [] .full)] [(0, 7, v4.nod)] fun v6 =>
 C.aLd 4 true false (l1.getD 1 .junk).nod H5 fun v7 H8 =>
 C.calm 60 [v7.nod, (l1.getD 0 .junk).nod.nod] H8 fun v9 =>
 C.call 52 [v6.nod, v9.nod] H8 fun v10 H11 =>
 C.aExt 0 v10.nod.nod fun v12 =>
 C.aExt 1 v10.nod.nod fun v13 =>
 C.aBin (Try.prog.underlying 4) .neq (l1.getD 4 .junk).nod.nod v13.nod.nod fun v14 =>
 Jv (fun v15 H16 =>
 R [(l1.getD 0 .junk).nod, v15] H16)
 (fun R17 =>
 aG v14.nod false (
 aG (l1.getD 4 .junk).nod.nod true (
 C.callE 61 [(l1.getD 3 .junk).nod.nod, v12.nod.nod] H11 fun v18 H19 =>
 C.aUn .not v18.nod fun v20 =>
 R17 v20.nod.nod H19) (
 R17 (B false) H11)) (
 UD = UD ∧
 UD = UD ∧
 UD = UD ∧
 UD = UD ∧
 R17 (B true) H11)))
 (fun R3 =>
 C.aLd 7 true false a1.nod H fun v21 H22 =>
 C.aBd [(I 0), (I 0), (I 0), (I 0), (V.arr [] .full), (V.arr [] .full), (V.arr [] .full)] [(0, 7, v21.nod)] fun v23 =>
 C.aLd 4 true false a2.nod H22 fun v24 H25 =>
 C.calm 60 [v24.nod, a0.nod.nod] H25 fun v26 =>
 C.call 52 [v23.nod, v26.nod] H25 fun v27 H28 =>
 C.aExt 0 v27.nod.nod fun v29 =>
 C.aExt 1 v27.nod.nod fun v30 =>
 R3 [a0, a2, a3, v29, v30] H28)
theorem wf62 : (Nat.ble 4 Try.f62.ntmps && wfC an62 Try.f62.ntmps (Try.f62.body.getD .skip)) = true := by kernel_rfl
theorem tie62 (C : Cb) (a0 a1 a2 a3 : V) (H : Hp) (R : List V → Hp → Prop) : wpG Try.prog C an62 (Try.f62.body.getD .skip) (argF [a0, a1, a2, a3]) H (retG Try.prog C Try.f62 R) (fun _ _ _ => False) (retG Try.prog C Try.f62 R) = vc62 C a0 a1 a2 a3 H R := by kernel_rfl
theorem mk62 (a0 a1 a2 a3 : V) {H : Hp} {v : V} {H1 : Hp} (hd : v.Nd) (hn : H.length ≤ H1.length) (hb : H1 = H ∨ ∀ (b : Nat) (blk : Blk), H1[b]? = some blk → H[b]? = some blk ∨ BelB H1.length blk) (h : vc62 (real Try.prog) a0 a1 a2 a3 H (retF v H1)) : Ret Try.prog 62 [a0, a1, a2, a3] H v H1 :=
  ret_mk (an := an62) hm Try.call62 Try.func62 rfl wf62 hd hn hb (Eq.mpr (tie62 (real Try.prog) a0 a1 a2 a3 H (retF v H1)) h)
def an63 : An := { imm := [], jn := [], lp := [], loud := [16], ord := [] }
def vc63 (C : Cb) (a0 a1 a2 a3 a4 : V) (H : Hp) (R : List V → Hp → Prop) : Prop :=
 C.aLd 7 true false a1.nod H fun v1 H2 =>
 C.aBd [(I 0), (I 0), (I 0), (I 0), (V.arr [] .full), (V.arr [] .full), (V.arr [] .full)] [(0, 7, v1.nod)] fun v3 =>
 C.aLd 4 true false a2.nod H2 fun v4 H5 =>
 C.calm 60 [v4.nod, a0.nod.nod] H5 fun v6 =>
 C.aLd 1 false false a3.nod H5 fun v7 H8 =>
 C.aLd 1 false false a4.nod H8 fun v9 H10 =>
 C.call 64 [v3.nod, v6.nod, v7.nod, v9.nod] H10 fun v11 H12 =>
 R [a0.nod, v11] H12
theorem wf63 : (Nat.ble 5 Try.f63.ntmps && wfC an63 Try.f63.ntmps (Try.f63.body.getD .skip)) = true := by kernel_rfl
theorem tie63 (C : Cb) (a0 a1 a2 a3 a4 : V) (H : Hp) (R : List V → Hp → Prop) : wpG Try.prog C an63 (Try.f63.body.getD .skip) (argF [a0, a1, a2, a3, a4]) H (retG Try.prog C Try.f63 R) (fun _ _ _ => False) (retG Try.prog C Try.f63 R) = vc63 C a0 a1 a2 a3 a4 H R := by kernel_rfl
theorem mk63 (a0 a1 a2 a3 a4 : V) {H : Hp} {v : V} {H1 : Hp} (hd : v.Nd) (hn : H.length ≤ H1.length) (hb : H1 = H ∨ ∀ (b : Nat) (blk : Blk), H1[b]? = some blk → H[b]? = some blk ∨ BelB H1.length blk) (h : vc63 (real Try.prog) a0 a1 a2 a3 a4 H (retF v H1)) : Ret Try.prog 63 [a0, a1, a2, a3, a4] H v H1 :=
  ret_mk (an := an63) hm Try.call63 Try.func63 rfl wf63 hd hn hb (Eq.mpr (tie63 (real Try.prog) a0 a1 a2 a3 a4 H (retF v H1)) h)
end Go.Proofs.Ytgodfjbmblghnaa

set_option linter.unusedVariables false
set_option maxRecDepth 20000
set_option maxHeartbeats 4000000
namespace Go.Proofs.Ytgodfjbmblghnaa
open Go Go.Ab Go.Proofs
def an64 : An := { imm := [4, 5, 10, 12], jn := [(3, [2, 3, 4, 5, 9, 27]), (5, [2, 3, 4, 5, 10]), (9, [2, 3, 4, 5, 10, 12, 39, 40, 41, 45]), (11, [2, 3, 4, 5, 10, 39, 40, 41, 63])], lp := [(6, [2, 3, 4, 5, 10, 39, 40, 41])], loud := [61, 87], ord := [] }
def vc64 (C : Cb) (a0 a1 a2 a3 : V) (H : Hp) (R : List V → Hp → Prop) : Prop :=
 C.aBx true 7 a0.nod H fun v1 H2 =>
 C.aBx true 4 a1.nod H2 fun v3 H4 =>
 C.aLd 7 true false v1.nod H4 fun v5 H6 =>
 C.aFA 1 1 false v3.nod fun v7 =>
 C.aLd 1 false false v7.nod H6 fun v8 H9 =>
 C.aFA 0 1 false v3.nod fun v10 =>
 C.aLd 1 false false v10.nod H9 fun v11 H12 =>
 C.callE 77 [v5.nod, v8.nod, v11.nod] H12 fun v13 H14 =>
 Jn (fun l15 H16 =>
 aCond (l15.getD 5 .junk).nod (
 R [(B true)] H16) (
 Jn (fun l18 H19 =>
 C.aFA 2 1 false (l18.getD 4 .junk).nod fun v21 =>
 C.aLd 1 false false v21.nod H19 fun v22 H23 =>
 C.aLen v22.nod fun v24 =>
 LoopA (fun l25 H26 K27 =>
 C.aBin (Try.prog.underlying 3) .lss (l25.getD 7 .junk).nod (l25.getD 6 .junk).nod fun v28 =>
 aCond v28.nod (
 C.aIx 4 (l25.getD 5 .junk).nod (l25.getD 7 .junk).nod fun v29 =>
 C.aLd 4 true false v29.nod H26 fun v30 H31 =>
 C.aBx true 4 v30.nod H31 fun v32 H33 =>
 Jn (fun l34 H35 =>
 aCond (l34.getD 9 .junk).nod (
 R [(B true)] H35) (
 Jn (fun l37 H38 =>
 aCond (l37.getD 8 .junk).nod (
 R [(B true)] H38) (
 C.aBin (Try.prog.underlying 3) .add (l37.getD 7 .junk).nod (I 1) fun v40 =>
 K27 [(l37.getD 0 .junk), (l37.getD 1 .junk), (l37.getD 2 .junk), (l37.getD 3 .junk), (l37.getD 4 .junk), (l37.getD 5 .junk), (l37.getD 6 .junk), v40.nod] H38))
 (fun R39 =>
 C.aFA 0 1 false (l34.getD 5 .junk).nod fun v41 =>
 C.aLd 1 false false v41.nod H35 fun v42 H43 =>
 C.aBin (Try.prog.underlying 57) .eql v42.nod (I 4) fun v44 =>
 Jv (fun v45 H46 =>
 Jv (fun v56 H57 =>
 R39 [(l34.getD 0 .junk), (l34.getD 1 .junk), (l34.getD 2 .junk), (l34.getD 3 .junk), (l34.getD 4 .junk), (l34.getD 6 .junk), (l34.getD 7 .junk), (l34.getD 8 .junk), v56] H57)
 (fun R58 =>
 aG v45.nod true (
 C.aLd 7 true false (l34.getD 2 .junk).nod H46 fun v59 H60 =>
 C.aFA 0 1 false (l34.getD 3 .junk).nod fun v61 =>
 C.aLd 1 false false v61.nod H60 fun v62 H63 =>
 C.aFA 1 1 false (l34.getD 4 .junk).nod fun v64 =>
 C.aLd 1 false false v64.nod H63 fun v65 H66 =>
 C.aBin (Try.prog.underlying 3) .rem v62.nod v65.nod fun v67 =>
 C.aFA 2 1 false (l34.getD 5 .junk).nod fun v68 =>
 C.aLd 1 false false v68.nod H66 fun v69 H70 =>
 C.aBd [(I 0), (I 0), (I 0), (I 0)] [(0, 1, v67.nod), (1, 1, v69.nod.nod)] fun v71 =>
 C.call 64 [v59.nod, (own0 v71 v67).nod, (l34.getD 0 .junk).nod.nod, (l34.getD 1 .junk).nod.nod] H70 fun v72 H73 =>
 R58 v72.nod H73) (
 R58 (B false) H46)))
 (fun R47 =>
 aG v44.nod true (
 C.aFA 0 1 false (l34.getD 3 .junk).nod fun v48 =>
 C.aLd 1 false false v48.nod H43 fun v49 H50 =>
 C.aFA 1 1 false (l34.getD 4 .junk).nod fun v51 =>
 C.aLd 1 false false v51.nod H50 fun v52 H53 =>
 C.aBin (Try.prog.underlying 3) .rem v49.nod v52.nod fun v54 =>
 C.aBin (Try.prog.underlying 3) .neq v54.nod (I 0) fun v55 =>
 R47 v55.nod H53) (
 R47 (B false) H43)))))
 (fun R36 =>
 C.aFA 0 1 false v32.nod fun v74 =>
 C.aLd 1 false false v74.nod H33 fun v75 H76 =>
 C.aBin (Try.prog.underlying 57) .eql v75.nod (I 3) fun v77 =>
 Jv (fun v78 H79 =>
 R36 [(l25.getD 0 .junk), (l25.getD 1 .junk), (l25.getD 2 .junk), (l25.getD 3 .junk), (l25.getD 4 .junk), v32, (l25.getD 5 .junk), (l25.getD 6 .junk), (l25.getD 7 .junk), v78] H79)
 (fun R80 =>
 aG v77.nod true (
 C.aLd 7 true false (l25.getD 2 .junk).nod H76 fun v81 H82 =>
 C.aFA 0 1 false (l25.getD 3 .junk).nod fun v83 =>
 C.aLd 1 false false v83.nod H82 fun v84 H85 =>
 C.aFA 1 1 false (l25.getD 4 .junk).nod fun v86 =>
 C.aLd 1 false false v86.nod H85 fun v87 H88 =>
 C.aBin (Try.prog.underlying 3) .quo v84.nod v87.nod fun v89 =>
 C.aFA 2 1 false v32.nod fun v90 =>
 C.aLd 1 false false v90.nod H88 fun v91 H92 =>
 C.aBd [(I 0), (I 0), (I 0), (I 0)] [(0, 1, v89.nod), (1, 1, v91.nod.nod)] fun v93 =>
 C.call 64 [v81.nod, (own0 v93 v89).nod, (l25.getD 0 .junk).nod.nod, (l25.getD 1 .junk).nod.nod] H92 fun v94 H95 =>
 R80 v94.nod H95) (
 R80 (B false) H76)))) (
 R [(B false)] H26))
 [(l18.getD 0 .junk), (l18.getD 1 .junk), (l18.getD 2 .junk), (l18.getD 3 .junk), (l18.getD 4 .junk), v22, v24, (I 0)] H23)
 (fun R20 =>
 C.aFA 0 7 true (l15.getD 2 .junk).nod fun v96 =>
 C.aFA 6 1 false v96.nod fun v97 =>
 C.aLd 1 false false v97.nod H16 fun v98 H99 =>
 C.aFA 1 1 false (l15.getD 3 .junk).nod fun v100 =>
 C.aLd 1 false false v100.nod H99 fun v101 H102 =>
 C.aIx 1 v98.nod v101.nod fun v103 =>
 C.aLd 1 false false v103.nod H102 fun v104 H105 =>
 C.aIx 3 v104.nod (l15.getD 4 .junk).nod.nod fun v106 =>
 C.aLd 3 true false v106.nod H105 fun v107 H108 =>
 C.aBx true 3 v107.nod H108 fun v109 H110 =>
 R20 [(l15.getD 0 .junk), (l15.getD 1 .junk), (l15.getD 2 .junk), (l15.getD 3 .junk), v109] H110)))
 (fun R17 =>
 C.aFA 1 1 false v3.nod fun v111 =>
 C.aLd 1 false false v111.nod H14 fun v112 H113 =>
 C.aBin (Try.prog.underlying 3) .eql v112.nod a2.nod.nod fun v114 =>
 Jv (fun v115 H116 =>
 R17 [a2, a3, v1, v3, v13, v115] H116)
 (fun R117 =>
 aG v114.nod true (
 C.aBin (Try.prog.underlying 3) .eql v13.nod.nod a3.nod.nod fun v118 =>
 R117 v118.nod H113) (
 R117 (B false) H113)))
theorem wf64 : (Nat.ble 4 Try.f64.ntmps && wfC an64 Try.f64.ntmps (Try.f64.body.getD .skip)) = true := by kernel_rfl
theorem tie64 (C : Cb) (a0 a1 a2 a3 : V) (H : Hp) (R : List V → Hp → Prop) : wpG Try.prog C an64 (Try.f64.body.getD .skip) (argF [a0, a1, a2, a3]) H (retG Try.prog C Try.f64 R) (fun _ _ _ => False) (retG Try.prog C Try.f64 R) = vc64 C a0 a1 a2 a3 H R := by kernel_rfl
theorem mk64 (a0 a1 a2 a3 : V) {H : Hp} {v : V} {H1 : Hp} (hd : v.Nd) (hn : H.length ≤ H1.length) (hb : H1 = H ∨ ∀ (b : Nat) (blk : Blk), H1[b]? = some blk → H[b]? = some blk ∨ BelB H1.length blk) (h : vc64 (real Try.prog) a0 a1 a2 a3 H (retF v H1)) : Ret Try.prog 64 [a0, a1, a2, a3] H v H1 :=
  ret_mk (an := an64) hm Try.call64 Try.func64 rfl wf64 hd hn hb (Eq.mpr (tie64 (real Try.prog) a0 a1 a2 a3 H (retF v H1)) h)
def an70 : An := { imm := [], jn := [], lp := [], loud := [], ord := [] }
def vc70 (C : Cb) (a0 a1 : V) (H : Hp) (R : List V → Hp → Prop) : Prop :=
 C.aBin (Try.prog.underlying 3) .geq a0.nod.nod (I (-1)) fun v1 =>
 Jv (fun v2 H3 =>
 R [v2] H3)
 (fun R4 =>
 aG v1.nod true (
 C.aBin (Try.prog.underlying 3) .lss a0.nod.nod a1.nod.nod fun v5 =>
 R4 v5.nod H) (
 R4 (B false) H))
theorem wf70 : (Nat.ble 2 Try.f70.ntmps && wfC an70 Try.f70.ntmps (Try.f70.body.getD .skip)) = true := by kernel_rfl
theorem tie70 (C : Cb) (a0 a1 : V) (H : Hp) (R : List V → Hp → Prop) : wpG Try.prog C an70 (Try.f70.body.getD .skip) (argF [a0, a1]) H (retG Try.prog C Try.f70 R) (fun _ _ _ => False) (retG Try.prog C Try.f70 R) = vc70 C a0 a1 H R := by kernel_rfl
theorem mk70 (a0 a1 : V) {H : Hp} {v : V} {H1 : Hp} (hd : v.Nd) (hn : H.length ≤ H1.length) (hb : H1 = H ∨ ∀ (b : Nat) (blk : Blk), H1[b]? = some blk → H[b]? = some blk ∨ BelB H1.length blk) (h : vc70 (real Try.prog) a0 a1 H (retF v H1)) : Ret Try.prog 70 [a0, a1] H v H1 :=
  ret_mk (an := an70) hm Try.call70 Try.func70 rfl wf70 hd hn hb (Eq.mpr (tie70 (real Try.prog) a0 a1 H (retF v H1)) h)
def an71 : An := { imm := [], jn := [(5, [0, 3, 19])], lp := [(2, [0, 3])], loud := [], ord := [] }
def vc71 (C : Cb) (a0 : V) (H : Hp) (R : List V → Hp → Prop) : Prop :=
 LoopA (fun l1 H2 K3 =>
 C.aLenT (l1.getD 0 .junk).nod.nod fun v4 =>
 C.aBin (Try.prog.underlying 3) .lss (l1.getD 1 .junk).nod.nod v4.nod fun v5 =>
 aCond v5.nod (
 Jn (fun l6 H7 =>
 aCond (l6.getD 2 .junk).nod (
 R [(B false)] H7) (
 C.aBin (Try.prog.underlying 3) .add (l6.getD 1 .junk).nod.nod (I 1) fun v9 =>
 K3 [(l6.getD 0 .junk), v9] H7))
 (fun R8 =>
 C.aIxT (l1.getD 0 .junk).nod.nod (l1.getD 1 .junk).nod.nod fun v10 =>
 C.aBin (Try.prog.underlying 5) .lss v10.nod (V.imm (.int .u8 33)) fun v11 =>
 Jv (fun v12 H13 =>
 R8 [(l1.getD 0 .junk), (l1.getD 1 .junk), v12] H13)
 (fun R14 =>
 aG v11.nod false (
 C.aIxT (l1.getD 0 .junk).nod.nod (l1.getD 1 .junk).nod.nod fun v15 =>
 C.aBin (Try.prog.underlying 5) .gtr v15.nod (V.imm (.int .u8 126)) fun v16 =>
 R14 v16.nod H2) (
 R14 (B true) H2)))) (
 C.aLenT (l1.getD 0 .junk).nod.nod fun v17 =>
 C.aBin (Try.prog.underlying 3) .geq v17.nod (I 1) fun v18 =>
 Jv (fun v19 H20 =>
 R [v19] H20)
 (fun R21 =>
 aG v18.nod true (
 C.aLenT (l1.getD 0 .junk).nod.nod fun v22 =>
 C.aBin (Try.prog.underlying 3) .leq v22.nod (I 30) fun v23 =>
 R21 v23.nod H2) (
 R21 (B false) H2))))
 [a0, (I 0)] H
theorem wf71 : (Nat.ble 1 Try.f71.ntmps && wfC an71 Try.f71.ntmps (Try.f71.body.getD .skip)) = true := by kernel_rfl
theorem tie71 (C : Cb) (a0 : V) (H : Hp) (R : List V → Hp → Prop) : wpG Try.prog C an71 (Try.f71.body.getD .skip) (argF [a0]) H (retG Try.prog C Try.f71 R) (fun _ _ _ => False) (retG Try.prog C Try.f71 R) = vc71 C a0 H R := by kernel_rfl
theorem mk71 (a0 : V) {H : Hp} {v : V} {H1 : Hp} (hd : v.Nd) (hn : H.length ≤ H1.length) (hb : H1 = H ∨ ∀ (b : Nat) (blk : Blk), H1[b]? = some blk → H[b]? = some blk ∨ BelB H1.length blk) (h : vc71 (real Try.prog) a0 H (retF v H1)) : Ret Try.prog 71 [a0] H v H1 :=
  ret_mk (an := an71) hm Try.call71 Try.func71 rfl wf71 hd hn hb (Eq.mpr (tie71 (real Try.prog) a0 H (retF v H1)) h)
def an72 : An := { imm := [3, 4], jn := [(2, [3, 4, 24]), (4, [3, 4, 7]), (5, [4, 78])], lp := [], loud := [], ord := [] }
def vc72 (C : Cb) (a0 a1 a2 : V) (H : Hp) (R : List V → Hp → Prop) : Prop :=
 C.aBx true 7 a0.nod H fun v1 H2 =>
 C.aBx true 4 a1.nod H2 fun v3 H4 =>
 Jn (fun l5 H6 =>
 aCond (l5.getD 2 .junk).nod (
 R [(B false)] H6) (
 Jn (fun l8 H9 =>
 Jn (fun l11 H12 =>
 aCond (l11.getD 1 .junk).nod (
 R [(B false)] H12) (
 C.aFA 3 1 false (l11.getD 0 .junk).nod fun v14 =>
 C.aLd 1 false false v14.nod H12 fun v15 H16 =>
 C.aBin (Try.prog.underlying 3) .geq v15.nod (I 0) fun v17 =>
 Jv (fun v18 H19 =>
 R [v18] H19)
 (fun R20 =>
 aG v17.nod true (
 C.aFA 0 1 false (l11.getD 0 .junk).nod fun v21 =>
 C.aLd 1 false false v21.nod H16 fun v22 H23 =>
 C.aBin (Try.prog.underlying 57) .eql v22.nod (I 5) fun v24 =>
 aG v24.nod false (
 C.aFA 3 1 false (l11.getD 0 .junk).nod fun v25 =>
 C.aLd 1 false false v25.nod H23 fun v26 H27 =>
 C.aBin (Try.prog.underlying 3) .eql v26.nod (I 0) fun v28 =>
 R20 v28.nod.nod H27) (
 R20 (B true) H23)) (
 UD = UD ∧
 UD = UD ∧
 UD = UD ∧
 R20 (B false) H16))))
 (fun R13 =>
 Jv (fun v29 H30 =>
 Jv (fun v48 H49 =>
 R13 [(l8.getD 1 .junk), v48] H49)
 (fun R50 =>
 aG v29.nod false (
 C.aUn .not (l8.getD 2 .junk).nod.nod fun v51 =>
 aG v51.nod true (
 C.aFA 1 1 false (l8.getD 1 .junk).nod fun v52 =>
 C.aLd 1 false false v52.nod H30 fun v53 H54 =>
 C.aBin (Try.prog.underlying 3) .neq v53.nod (I 0) fun v55 =>
 aG v55.nod false (
 C.aFA 2 1 false (l8.getD 1 .junk).nod fun v56 =>
 C.aLd 1 false false v56.nod H54 fun v57 H58 =>
 C.aBin (Try.prog.underlying 3) .lss v57.nod (I 0) fun v59 =>
 aG v59.nod.nod false (
 C.aFA 2 1 false (l8.getD 1 .junk).nod fun v60 =>
 C.aLd 1 false false v60.nod H58 fun v61 H62 =>
 C.aFA 6 1 false (l8.getD 0 .junk).nod fun v63 =>
 C.aLd 1 false false v63.nod H62 fun v64 H65 =>
 C.aLen v64.nod fun v66 =>
 C.aBin (Try.prog.underlying 3) .geq v61.nod v66.nod fun v67 =>
 R50 v67.nod.nod.nod H65) (
 R50 (B true) H58)) (
 R50 (B true) H54)) (
 UD = UD ∧
 UD = UD ∧
 UD = UD ∧
 UD = UD ∧
 UD = UD ∧
 UD = UD ∧
 UD = UD ∧
 UD = UD ∧
 UD = UD ∧
 R50 (B false) H30)) (
 UD = UD ∧
 UD = UD ∧
 UD = UD ∧
 UD = UD ∧
 UD = UD ∧
 UD = UD ∧
 UD = UD ∧
 UD = UD ∧
 UD = UD ∧
 UD = UD ∧
 UD = UD ∧
 UD = UD ∧
 UD = UD ∧
 UD = UD ∧
 UD = UD ∧
 UD = UD ∧
 R50 (B true) H30)))
 (fun R31 =>
 aG (l8.getD 2 .junk).nod.nod true (
 C.aFA 1 1 false (l8.getD 1 .junk).nod fun v32 =>
 C.aLd 1 false false v32.nod H9 fun v33 H34 =>
 C.aBin (Try.prog.underlying 3) .lss v33.nod (I 0) fun v35 =>
 aG v35.nod false (
 C.aFA 1 1 false (l8.getD 1 .junk).nod fun v36 =>
 C.aLd 1 false false v36.nod H34 fun v37 H38 =>
 C.aFA 4 1 false (l8.getD 0 .junk).nod fun v39 =>
 C.aLd 1 false false v39.nod H38 fun v40 H41 =>
 C.aLen v40.nod fun v42 =>
 C.aBin (Try.prog.underlying 3) .geq v37.nod v42.nod fun v43 =>
 aG v43.nod.nod false (
 C.aFA 2 1 false (l8.getD 1 .junk).nod fun v44 =>
 C.aLd 1 false false v44.nod H41 fun v45 H46 =>
 C.aBin (Try.prog.underlying 3) .neq v45.nod (I 0) fun v47 =>
 R31 v47.nod.nod H46) (
 R31 (B true) H41)) (
 R31 (B true) H34)) (
 UD = UD ∧
 UD = UD ∧
 UD = UD ∧
 UD = UD ∧
 UD = UD ∧
 UD = UD ∧
 UD = UD ∧
 UD = UD ∧
 UD = UD ∧
 R31 (B false) H9))))
 (fun R10 =>
 C.aFA 0 1 false (l5.getD 1 .junk).nod fun v68 =>
 C.aLd 1 false false v68.nod H6 fun v69 H70 =>
 C.aBin (Try.prog.underlying 57) .eql v69.nod (I 1) fun v71 =>
 Jv (fun v72 H73 =>
 Jv (fun v79 H80 =>
 R10 [(l5.getD 0 .junk), (l5.getD 1 .junk), v79] H80)
 (fun R81 =>
 aG v72.nod false (
 C.aFA 0 1 false (l5.getD 1 .junk).nod fun v82 =>
 C.aLd 1 false false v82.nod H73 fun v83 H84 =>
 C.aBin (Try.prog.underlying 57) .eql v83.nod (I 5) fun v85 =>
 R81 v85.nod H84) (
 R81 (B true) H73)))
 (fun R74 =>
 aG v71.nod false (
 C.aFA 0 1 false (l5.getD 1 .junk).nod fun v75 =>
 C.aLd 1 false false v75.nod H70 fun v76 H77 =>
 C.aBin (Try.prog.underlying 57) .eql v76.nod (I 2) fun v78 =>
 R74 v78.nod H77) (
 R74 (B true) H70)))))
 (fun R7 =>
 C.aFA 0 1 false v3.nod fun v86 =>
 C.aLd 1 false false v86.nod H4 fun v87 H88 =>
 C.aBin (Try.prog.underlying 57) .lss v87.nod (I 1) fun v89 =>
 Jv (fun v90 H91 =>
 Jv (fun v97 H98 =>
 R7 [v1, v3, v97] H98)
 (fun R99 =>
 aG v90.nod false (
 C.aFA 0 1 false v3.nod fun v100 =>
 C.aLd 1 false false v100.nod H91 fun v101 H102 =>
 C.aBin (Try.prog.underlying 57) .neq v101.nod (I 1) fun v103 =>
 aG v103.nod true (
 C.aBin (Try.prog.underlying 3) .eql a2.nod.nod (I 0) fun v104 =>
 R99 v104.nod.nod H102) (
 R99 (B false) H102)) (
 UD = UD ∧
 UD = UD ∧
 R99 (B true) H91)))
 (fun R92 =>
 aG v89.nod false (
 C.aFA 0 1 false v3.nod fun v93 =>
 C.aLd 1 false false v93.nod H88 fun v94 H95 =>
 C.aBin (Try.prog.underlying 57) .gtr v94.nod (I 5) fun v96 =>
 R92 v96.nod H95) (
 R92 (B true) H88)))
theorem wf72 : (Nat.ble 3 Try.f72.ntmps && wfC an72 Try.f72.ntmps (Try.f72.body.getD .skip)) = true := by kernel_rfl
theorem tie72 (C : Cb) (a0 a1 a2 : V) (H : Hp) (R : List V → Hp → Prop) : wpG Try.prog C an72 (Try.f72.body.getD .skip) (argF [a0, a1, a2]) H (retG Try.prog C Try.f72 R) (fun _ _ _ => False) (retG Try.prog C Try.f72 R) = vc72 C a0 a1 a2 H R := by kernel_rfl
theorem mk72 (a0 a1 a2 : V) {H : Hp} {v : V} {H1 : Hp} (hd : v.Nd) (hn : H.length ≤ H1.length) (hb : H1 = H ∨ ∀ (b : Nat) (blk : Blk), H1[b]? = some blk → H[b]? = some blk ∨ BelB H1.length blk) (h : vc72 (real Try.prog) a0 a1 a2 H (retF v H1)) : Ret Try.prog 72 [a0, a1, a2] H v H1 :=
  ret_mk (an := an72) hm Try.call72 Try.func72 rfl wf72 hd hn hb (Eq.mpr (tie72 (real Try.prog) a0 a1 a2 H (retF v H1)) h)
def an73 : An := { imm := [], jn := [], lp := [], loud := [], ord := [] }
def vc73 (C : Cb) (a0 : V) (H : Hp) (R : List V → Hp → Prop) : Prop :=
 C.aLenT a0.nod.nod fun v1 =>
 C.callE 45 [v1.nod, (I 1), (I 30)] H fun v2 H3 =>
 Jv (fun v4 H5 =>
 R [v4] H5)
 (fun R6 =>
 aG v2.nod true (
 C.aTB a0.nod.nod fun v7 =>
 C.callE 81 [v7.nod, (V.fn 82 [])] H3 fun v8 H9 =>
 C.aUn .not v8.nod fun v10 =>
 R6 v10.nod H9) (
 R6 (B false) H3))
theorem wf73 : (Nat.ble 1 Try.f73.ntmps && wfC an73 Try.f73.ntmps (Try.f73.body.getD .skip)) = true := by kernel_rfl
theorem tie73 (C : Cb) (a0 : V) (H : Hp) (R : List V → Hp → Prop) : wpG Try.prog C an73 (Try.f73.body.getD .skip) (argF [a0]) H (retG Try.prog C Try.f73 R) (fun _ _ _ => False) (retG Try.prog C Try.f73 R) = vc73 C a0 H R := by kernel_rfl
theorem mk73 (a0 : V) {H : Hp} {v : V} {H1 : Hp} (hd : v.Nd) (hn : H.length ≤ H1.length) (hb : H1 = H ∨ ∀ (b : Nat) (blk : Blk), H1[b]? = some blk → H[b]? = some blk ∨ BelB H1.length blk) (h : vc73 (real Try.prog) a0 H (retF v H1)) : Ret Try.prog 73 [a0] H v H1 :=
  ret_mk (an := an73) hm Try.call73 Try.func73 rfl wf73 hd hn hb (Eq.mpr (tie73 (real Try.prog) a0 H (retF v H1)) h)
def an74 : An := { imm := [], jn := [], lp := [(2, [0, 1, 7, 8])], loud := [], ord := [] }
def vc74 (C : Cb) (a0 a1 : V) (H : Hp) (R : List V → Hp → Prop) : Prop :=
 C.aLen a0.nod.nod fun v1 =>
 LoopA (fun l2 H3 K4 =>
 C.aBin (Try.prog.underlying 3) .lss (l2.getD 3 .junk).nod (l2.getD 2 .junk).nod fun v5 =>
 aCond v5.nod (
 C.aIx 1 (l2.getD 0 .junk).nod.nod (l2.getD 3 .junk).nod.nod.nod fun v6 =>
 C.aLd 1 false false v6.nod H3 fun v7 H8 =>
 aCallEG C (l2.getD 1 .junk).nod.nod [v7.nod] H8 fun v9 H10 =>
 aCond v9.nod (
 R [(l2.getD 3 .junk).nod.nod] H10) (
 C.aBin (Try.prog.underlying 3) .add (l2.getD 3 .junk).nod (I 1) fun v11 =>
 K4 [(l2.getD 0 .junk), (l2.getD 1 .junk), (l2.getD 2 .junk), v11.nod] H10)) (
 R [(I (-1))] H3))
 [a0, a1, v1, (I 0)] H
theorem wf74 : (Nat.ble 2 Try.f74.ntmps && wfC an74 Try.f74.ntmps (Try.f74.body.getD .skip)) = true := by kernel_rfl
theorem tie74 (C : Cb) (a0 a1 : V) (H : Hp) (R : List V → Hp → Prop) : wpG Try.prog C an74 (Try.f74.body.getD .skip) (argF [a0, a1]) H (retG Try.prog C Try.f74 R) (fun _ _ _ => False) (retG Try.prog C Try.f74 R) = vc74 C a0 a1 H R := by kernel_rfl
theorem mk74 (a0 a1 : V) {H : Hp} {v : V} {H1 : Hp} (hd : v.Nd) (hn : H.length ≤ H1.length) (hb : H1 = H ∨ ∀ (b : Nat) (blk : Blk), H1[b]? = some blk → H[b]? = some blk ∨ BelB H1.length blk) (h : vc74 (real Try.prog) a0 a1 H (retF v H1)) : Ret Try.prog 74 [a0, a1] H v H1 :=
  ret_mk (an := an74) hm Try.call74 Try.func74 rfl wf74 hd hn hb (Eq.mpr (tie74 (real Try.prog) a0 a1 H (retF v H1)) h)
def an75 : An := { imm := [3, 5], jn := [(2, [1, 5, 7, 8]), (3, [5, 7, 8, 29]), (7, [5, 7, 8, 31, 32]), (10, [5, 7, 8, 31, 46])], lp := [], loud := [22], ord := [] }
def vc75 (C : Cb) (a0 a1 a2 : V) (H : Hp) (R : List V → Hp → Prop) : Prop :=
 C.aBx true 7 a0.nod H fun v1 H2 =>
 C.aBx true 4 a2.nod H2 fun v3 H4 =>
 Jn (fun l5 H6 =>
 Jn (fun l8 H9 =>
 aCond (l8.getD 3 .junk).nod (
 R [(B false)] H9) (
 C.aFA 0 1 false (l8.getD 0 .junk).nod fun v11 =>
 C.aLd 1 false false v11.nod H9 fun v12 H13 =>
 Jn (fun l14 H15 =>
 aCond (l14.getD 4 .junk).nod (
 Jv (fun v17 H18 =>
 Jv (fun v24 H25 =>
 R [v24] H25)
 (fun R26 =>
 aG v17.nod true (
 C.aFA 3 1 false (l14.getD 0 .junk).nod fun v27 =>
 C.aLd 1 false false v27.nod H18 fun v28 H29 =>
 C.aBin (Try.prog.underlying 3) .eql v28.nod (I 0) fun v30 =>
 R26 v30.nod H29) (
 R26 (B false) H18)))
 (fun R19 =>
 aG (l14.getD 1 .junk).nod.nod true (
 C.aFA 2 1 false (l14.getD 0 .junk).nod fun v20 =>
 C.aLd 1 false false v20.nod H15 fun v21 H22 =>
 C.aBin (Try.prog.underlying 3) .eql v21.nod (I 0) fun v23 =>
 R19 v23.nod H22) (
 R19 (B false) H15))) (
 Jn (fun l31 H32 =>
 aCond (l31.getD 4 .junk).nod (
 Jv (fun v34 H35 =>
 Jv (fun v41 H42 =>
 R [v41] H42)
 (fun R43 =>
 aG v34.nod true (
 C.aFA 3 1 false (l31.getD 0 .junk).nod fun v44 =>
 C.aLd 1 false false v44.nod H35 fun v45 H46 =>
 C.aBin (Try.prog.underlying 3) .eql v45.nod (I 0) fun v47 =>
 R43 v47.nod H46) (
 R43 (B false) H35)))
 (fun R36 =>
 aG (l31.getD 2 .junk).nod.nod true (
 C.aFA 1 1 false (l31.getD 0 .junk).nod fun v37 =>
 C.aLd 1 false false v37.nod H32 fun v38 H39 =>
 C.aBin (Try.prog.underlying 3) .eql v38.nod (I 0) fun v40 =>
 R36 v40.nod H39) (
 R36 (B false) H32))) (
 C.aBin (Try.prog.underlying 57) .eql (l31.getD 3 .junk).nod (I 5) fun v48 =>
 aCond v48.nod (
 Jv (fun v49 H50 =>
 Jv (fun v56 H57 =>
 R [v56] H57)
 (fun R58 =>
 aG v49.nod true (
 C.aFA 3 1 false (l31.getD 0 .junk).nod fun v59 =>
 C.aLd 1 false false v59.nod H50 fun v60 H61 =>
 C.aBin (Try.prog.underlying 3) .geq v60.nod (I 0) fun v62 =>
 R58 v62.nod H61) (
 R58 (B false) H50)))
 (fun R51 =>
 aG (l31.getD 1 .junk).nod.nod true (
 C.aFA 2 1 false (l31.getD 0 .junk).nod fun v52 =>
 C.aLd 1 false false v52.nod H32 fun v53 H54 =>
 C.aBin (Try.prog.underlying 3) .eql v53.nod (I 0) fun v55 =>
 R51 v55.nod H54) (
 R51 (B false) H32))) (
 R [(B false)] H32)))
 (fun R33 =>
 C.aBin (Try.prog.underlying 57) .eql (l14.getD 3 .junk).nod (I 3) fun v63 =>
 aCond v63.nod (
 R33 [(l14.getD 0 .junk), (l14.getD 1 .junk), (l14.getD 2 .junk), (l14.getD 3 .junk), v63] H15) (
 C.aBin (Try.prog.underlying 57) .eql (l14.getD 3 .junk).nod (I 4) fun v64 =>
 R33 [(l14.getD 0 .junk), (l14.getD 1 .junk), (l14.getD 2 .junk), (l14.getD 3 .junk), v64] H15))))
 (fun R16 =>
 C.aBin (Try.prog.underlying 57) .eql v12.nod (I 1) fun v65 =>
 aCond v65.nod (
 R16 [(l8.getD 0 .junk), (l8.getD 1 .junk), (l8.getD 2 .junk), v12, v65] H13) (
 C.aBin (Try.prog.underlying 57) .eql v12.nod (I 2) fun v66 =>
 R16 [(l8.getD 0 .junk), (l8.getD 1 .junk), (l8.getD 2 .junk), v12, v66] H13))))
 (fun R10 =>
 C.aFA 0 1 false (l5.getD 1 .junk).nod fun v67 =>
 C.aLd 1 false false v67.nod H6 fun v68 H69 =>
 C.aBin (Try.prog.underlying 57) .neq v68.nod (I 1) fun v70 =>
 Jv (fun v71 H72 =>
 R10 [(l5.getD 1 .junk), (l5.getD 2 .junk), (l5.getD 3 .junk), v71] H72)
 (fun R73 =>
 aG v70.nod true (
 C.aUn .not (l5.getD 0 .junk).nod.nod fun v74 =>
 R73 v74.nod H69) (
 R73 (B false) H69))))
 (fun R7 =>
 C.aFA 1 1 false v3.nod fun v75 =>
 C.aLd 1 false false v75.nod H4 fun v76 H77 =>
 C.aFA 4 1 false v1.nod fun v78 =>
 C.aLd 1 false false v78.nod H77 fun v79 H80 =>
 C.aLen v79.nod fun v81 =>
 C.aBin (Try.prog.underlying 3) .sub v81.nod (I 1) fun v82 =>
 C.calm 45 [v76.nod, (I 0), v82.nod] H80 fun v83 =>
 C.aFA 2 1 false v3.nod fun v84 =>
 C.aLd 1 false false v84.nod H80 fun v85 H86 =>
 C.aFA 6 1 false v1.nod fun v87 =>
 C.aLd 1 false false v87.nod H86 fun v88 H89 =>
 C.aLen v88.nod fun v90 =>
 C.aBin (Try.prog.underlying 3) .sub v90.nod (I 1) fun v91 =>
 C.call 45 [v85.nod, (I 0), v91.nod] H89 fun v92 H93 =>
 R7 [a1, v3, v83, v92] H93)
theorem wf75 : (Nat.ble 3 Try.f75.ntmps && wfC an75 Try.f75.ntmps (Try.f75.body.getD .skip)) = true := by kernel_rfl
theorem tie75 (C : Cb) (a0 a1 a2 : V) (H : Hp) (R : List V → Hp → Prop) : wpG Try.prog C an75 (Try.f75.body.getD .skip) (argF [a0, a1, a2]) H (retG Try.prog C Try.f75 R) (fun _ _ _ => False) (retG Try.prog C Try.f75 R) = vc75 C a0 a1 a2 H R := by kernel_rfl
theorem mk75 (a0 a1 a2 : V) {H : Hp} {v : V} {H1 : Hp} (hd : v.Nd) (hn : H.length ≤ H1.length) (hb : H1 = H ∨ ∀ (b : Nat) (blk : Blk), H1[b]? = some blk → H[b]? = some blk ∨ BelB H1.length blk) (h : vc75 (real Try.prog) a0 a1 a2 H (retF v H1)) : Ret Try.prog 75 [a0, a1, a2] H v H1 :=
  ret_mk (an := an75) hm Try.call75 Try.func75 rfl wf75 hd hn hb (Eq.mpr (tie75 (real Try.prog) a0 a1 a2 H (retF v H1)) h)
def an76 : An := { imm := [2, 3], jn := [], lp := [], loud := [], ord := [] }
def vc76 (C : Cb) (a0 a1 : V) (H : Hp) (R : List V → Hp → Prop) : Prop :=
 C.aBx true 7 a0.nod H fun v1 H2 =>
 C.aBx true 4 a1.nod H2 fun v3 H4 =>
 R [(V.fn 83 [v1.nod, v3.nod])] H4
theorem wf76 : (Nat.ble 2 Try.f76.ntmps && wfC an76 Try.f76.ntmps (Try.f76.body.getD .skip)) = true := by kernel_rfl
theorem tie76 (C : Cb) (a0 a1 : V) (H : Hp) (R : List V → Hp → Prop) : wpG Try.prog C an76 (Try.f76.body.getD .skip) (argF [a0, a1]) H (retG Try.prog C Try.f76 R) (fun _ _ _ => False) (retG Try.prog C Try.f76 R) = vc76 C a0 a1 H R := by kernel_rfl
theorem mk76 (a0 a1 : V) {H : Hp} {v : V} {H1 : Hp} (hd : v.Nd) (hn : H.length ≤ H1.length) (hb : H1 = H ∨ ∀ (b : Nat) (blk : Blk), H1[b]? = some blk → H[b]? = some blk ∨ BelB H1.length blk) (h : vc76 (real Try.prog) a0 a1 H (retF v H1)) : Ret Try.prog 76 [a0, a1] H v H1 :=
  ret_mk (an := an76) hm Try.call76 Try.func76 rfl wf76 hd hn hb (Eq.mpr (tie76 (real Try.prog) a0 a1 H (retF v H1)) h)
def an77 : An := { imm := [3, 5], jn := [], lp := [], loud := [], ord := [] }
def vc77 (C : Cb) (a0 a1 a2 : V) (H : Hp) (R : List V → Hp → Prop) : Prop :=
 C.aBx true 7 a0.nod H fun v1 H2 =>
 C.aBx true 1 a2.nod H2 fun v3 H4 =>
 C.aFA 0 7 true v1.nod fun v5 =>
 C.aFA 6 1 false v5.nod fun v6 =>
 C.aLd 1 false false v6.nod H4 fun v7 H8 =>
 C.aIx 1 v7.nod a1.nod.nod fun v9 =>
 C.aLd 1 false false v9.nod H8 fun v10 H11 =>
 C.aLen v10.nod fun v12 =>
 C.aBin (Try.prog.underlying 3) .sub v12.nod (I 1) fun v13 =>
 C.aFA 0 7 true v1.nod fun v14 =>
 C.aFA 6 1 false v14.nod fun v15 =>
 C.aLd 1 false false v15.nod H11 fun v16 H17 =>
 C.aIx 1 v16.nod a1.nod.nod fun v18 =>
 C.aLd 1 false false v18.nod H17 fun v19 H20 =>
 C.calm 86 [v19.nod] H20 fun v21 =>
 C.calm 85 [v21.nod, (V.fn 87 [v3.nod])] H20 fun v22 =>
 C.aBin (Try.prog.underlying 3) .sub v13.nod v22.nod fun v23 =>
 R [v23] H20
theorem wf77 : (Nat.ble 3 Try.f77.ntmps && wfC an77 Try.f77.ntmps (Try.f77.body.getD .skip)) = true := by kernel_rfl
theorem tie77 (C : Cb) (a0 a1 a2 : V) (H : Hp) (R : List V → Hp → Prop) : wpG Try.prog C an77 (Try.f77.body.getD .skip) (argF [a0, a1, a2]) H (retG Try.prog C Try.f77 R) (fun _ _ _ => False) (retG Try.prog C Try.f77 R) = vc77 C a0 a1 a2 H R := by kernel_rfl
theorem mk77 (a0 a1 a2 : V) {H : Hp} {v : V} {H1 : Hp} (hd : v.Nd) (hn : H.length ≤ H1.length) (hb : H1 = H ∨ ∀ (b : Nat) (blk : Blk), H1[b]? = some blk → H[b]? = some blk ∨ BelB H1.length blk) (h : vc77 (real Try.prog) a0 a1 a2 H (retF v H1)) : Ret Try.prog 77 [a0, a1, a2] H v H1 :=
  ret_mk (an := an77) hm Try.call77 Try.func77 rfl wf77 hd hn hb (Eq.mpr (tie77 (real Try.prog) a0 a1 a2 H (retF v H1)) h)
def an81 : An := { imm := [], jn := [], lp := [], loud := [], ord := [] }
def vc81 (C : Cb) (a0 a1 : V) (H : Hp) (R : List V → Hp → Prop) : Prop :=
 C.callE 90 [a0.nod.nod, a1.nod.nod] H fun v1 H2 =>
 C.aBin (Try.prog.underlying 3) .geq v1.nod (I 0) fun v3 =>
 R [v3] H2
theorem wf81 : (Nat.ble 2 Try.f81.ntmps && wfC an81 Try.f81.ntmps (Try.f81.body.getD .skip)) = true := by kernel_rfl
theorem tie81 (C : Cb) (a0 a1 : V) (H : Hp) (R : List V → Hp → Prop) : wpG Try.prog C an81 (Try.f81.body.getD .skip) (argF [a0, a1]) H (retG Try.prog C Try.f81 R) (fun _ _ _ => False) (retG Try.prog C Try.f81 R) = vc81 C a0 a1 H R := by kernel_rfl
theorem mk81 (a0 a1 : V) {H : Hp} {v : V} {H1 : Hp} (hd : v.Nd) (hn : H.length ≤ H1.length) (hb : H1 = H ∨ ∀ (b : Nat) (blk : Blk), H1[b]? = some blk → H[b]? = some blk ∨ BelB H1.length blk) (h : vc81 (real Try.prog) a0 a1 H (retF v H1)) : Ret Try.prog 81 [a0, a1] H v H1 :=
  ret_mk (an := an81) hm Try.call81 Try.func81 rfl wf81 hd hn hb (Eq.mpr (tie81 (real Try.prog) a0 a1 H (retF v H1)) h)
def an82 : An := { imm := [], jn := [], lp := [], loud := [], ord := [] }
def vc82 (C : Cb) (a0 : V) (H : Hp) (R : List V → Hp → Prop) : Prop :=
 C.aBin (Try.prog.underlying 5) .lss a0.nod.nod (V.imm (.int .u8 33)) fun v1 =>
 Jv (fun v2 H3 =>
 R [v2] H3)
 (fun R4 =>
 aG v1.nod false (
 C.aBin (Try.prog.underlying 5) .gtr a0.nod.nod (V.imm (.int .u8 126)) fun v5 =>
 R4 v5.nod H) (
 R4 (B true) H))
theorem wf82 : (Nat.ble 1 Try.f82.ntmps && wfC an82 Try.f82.ntmps (Try.f82.body.getD .skip)) = true := by kernel_rfl
theorem tie82 (C : Cb) (a0 : V) (H : Hp) (R : List V → Hp → Prop) : wpG Try.prog C an82 (Try.f82.body.getD .skip) (argF [a0]) H (retG Try.prog C Try.f82 R) (fun _ _ _ => False) (retG Try.prog C Try.f82 R) = vc82 C a0 H R := by kernel_rfl
theorem mk82 (a0 : V) {H : Hp} {v : V} {H1 : Hp} (hd : v.Nd) (hn : H.length ≤ H1.length) (hb : H1 = H ∨ ∀ (b : Nat) (blk : Blk), H1[b]? = some blk → H[b]? = some blk ∨ BelB H1.length blk) (h : vc82 (real Try.prog) a0 H (retF v H1)) : Ret Try.prog 82 [a0] H v H1 :=
  ret_mk (an := an82) hm Try.call82 Try.func82 rfl wf82 hd hn hb (Eq.mpr (tie82 (real Try.prog) a0 H (retF v H1)) h)
def an83 : An := { imm := [], jn := [], lp := [], loud := [], ord := [] }
def vc83 (C : Cb) (a0 a1 a2 : V) (H : Hp) (R : List V → Hp → Prop) : Prop :=
 C.aLd 7 true false a1.nod H fun v1 H2 =>
 C.aLd 4 true false a2.nod H2 fun v3 H4 =>
 C.callE 84 [v1.nod, v3.nod, (I 0), a0.nod.nod] H4 fun v5 H6 =>
 R [] H6
theorem wf83 : (Nat.ble 3 Try.f83.ntmps && wfC an83 Try.f83.ntmps (Try.f83.body.getD .skip)) = true := by kernel_rfl
theorem tie83 (C : Cb) (a0 a1 a2 : V) (H : Hp) (R : List V → Hp → Prop) : wpG Try.prog C an83 (Try.f83.body.getD .skip) (argF [a0, a1, a2]) H (retG Try.prog C Try.f83 R) (fun _ _ _ => False) (retG Try.prog C Try.f83 R) = vc83 C a0 a1 a2 H R := by kernel_rfl
theorem mk83 (a0 a1 a2 : V) {H : Hp} {v : V} {H1 : Hp} (hd : v.Nd) (hn : H.length ≤ H1.length) (hb : H1 = H ∨ ∀ (b : Nat) (blk : Blk), H1[b]? = some blk → H[b]? = some blk ∨ BelB H1.length blk) (h : vc83 (real Try.prog) a0 a1 a2 H (retF v H1)) : Ret Try.prog 83 [a0, a1, a2] H v H1 :=
  ret_mk (an := an83) hm Try.call83 Try.func83 rfl wf83 hd hn hb (Eq.mpr (tie83 (real Try.prog) a0 a1 a2 H (retF v H1)) h)
def an85 : An := { imm := [], jn := [], lp := [(2, [0, 1, 7, 8])], loud := [], ord := [] }
def vc85 (C : Cb) (a0 a1 : V) (H : Hp) (R : List V → Hp → Prop) : Prop :=
 C.aLen a0.nod.nod fun v1 =>
 LoopA (fun l2 H3 K4 =>
 C.aBin (Try.prog.underlying 3) .lss (l2.getD 3 .junk).nod (l2.getD 2 .junk).nod fun v5 =>
 aCond v5.nod (
 C.aIx 3 (l2.getD 0 .junk).nod.nod (l2.getD 3 .junk).nod.nod.nod fun v6 =>
 C.aLd 3 true false v6.nod H3 fun v7 H8 =>
 aCallEG C (l2.getD 1 .junk).nod.nod [v7.nod] H8 fun v9 H10 =>
 aCond v9.nod (
 R [(l2.getD 3 .junk).nod.nod] H10) (
 C.aBin (Try.prog.underlying 3) .add (l2.getD 3 .junk).nod (I 1) fun v11 =>
 K4 [(l2.getD 0 .junk), (l2.getD 1 .junk), (l2.getD 2 .junk), v11.nod] H10)) (
 R [(I (-1))] H3))
 [a0, a1, v1, (I 0)] H
theorem wf85 : (Nat.ble 2 Try.f85.ntmps && wfC an85 Try.f85.ntmps (Try.f85.body.getD .skip)) = true := by kernel_rfl
theorem tie85 (C : Cb) (a0 a1 : V) (H : Hp) (R : List V → Hp → Prop) : wpG Try.prog C an85 (Try.f85.body.getD .skip) (argF [a0, a1]) H (retG Try.prog C Try.f85 R) (fun _ _ _ => False) (retG Try.prog C Try.f85 R) = vc85 C a0 a1 H R := by kernel_rfl
theorem mk85 (a0 a1 : V) {H : Hp} {v : V} {H1 : Hp} (hd : v.Nd) (hn : H.length ≤ H1.length) (hb : H1 = H ∨ ∀ (b : Nat) (blk : Blk), H1[b]? = some blk → H[b]? = some blk ∨ BelB H1.length blk) (h : vc85 (real Try.prog) a0 a1 H (retF v H1)) : Ret Try.prog 85 [a0, a1] H v H1 :=
  ret_mk (an := an85) hm Try.call85 Try.func85 rfl wf85 hd hn hb (Eq.mpr (tie85 (real Try.prog) a0 a1 H (retF v H1)) h)
def an86 : An := { imm := [], jn := [], lp := [], loud := [], ord := [] }
def vc86 (C : Cb) (a0 : V) (H : Hp) (R : List V → Hp → Prop) : Prop :=
 C.callE 94 [a0.nod.nod] H fun v1 H2 =>
 C.callE 95 [v1.nod.nod] H2 fun v3 H4 =>
 R [v1.nod] H4
theorem wf86 : (Nat.ble 1 Try.f86.ntmps && wfC an86 Try.f86.ntmps (Try.f86.body.getD .skip)) = true := by kernel_rfl
theorem tie86 (C : Cb) (a0 : V) (H : Hp) (R : List V → Hp → Prop) : wpG Try.prog C an86 (Try.f86.body.getD .skip) (argF [a0]) H (retG Try.prog C Try.f86 R) (fun _ _ _ => False) (retG Try.prog C Try.f86 R) = vc86 C a0 H R := by kernel_rfl
theorem mk86 (a0 : V) {H : Hp} {v : V} {H1 : Hp} (hd : v.Nd) (hn : H.length ≤ H1.length) (hb : H1 = H ∨ ∀ (b : Nat) (blk : Blk), H1[b]? = some blk → H[b]? = some blk ∨ BelB H1.length blk) (h : vc86 (real Try.prog) a0 H (retF v H1)) : Ret Try.prog 86 [a0] H v H1 :=
  ret_mk (an := an86) hm Try.call86 Try.func86 rfl wf86 hd hn hb (Eq.mpr (tie86 (real Try.prog) a0 H (retF v H1)) h)
def an87 : An := { imm := [2], jn := [], lp := [], loud := [], ord := [] }
def vc87 (C : Cb) (a0 a1 : V) (H : Hp) (R : List V → Hp → Prop) : Prop :=
 C.aBx true 3 a0.nod H fun v1 H2 =>
 C.aFA 0 1 false v1.nod fun v3 =>
 C.aLd 1 false false v3.nod H2 fun v4 H5 =>
 C.aLd 1 false false a1.nod H5 fun v6 H7 =>
 C.aBin (Try.prog.underlying 3) .leq v4.nod v6.nod fun v8 =>
 R [v8] H7
theorem wf87 : (Nat.ble 2 Try.f87.ntmps && wfC an87 Try.f87.ntmps (Try.f87.body.getD .skip)) = true := by kernel_rfl
theorem tie87 (C : Cb) (a0 a1 : V) (H : Hp) (R : List V → Hp → Prop) : wpG Try.prog C an87 (Try.f87.body.getD .skip) (argF [a0, a1]) H (retG Try.prog C Try.f87 R) (fun _ _ _ => False) (retG Try.prog C Try.f87 R) = vc87 C a0 a1 H R := by kernel_rfl
theorem mk87 (a0 a1 : V) {H : Hp} {v : V} {H1 : Hp} (hd : v.Nd) (hn : H.length ≤ H1.length) (hb : H1 = H ∨ ∀ (b : Nat) (blk : Blk), H1[b]? = some blk → H[b]? = some blk ∨ BelB H1.length blk) (h : vc87 (real Try.prog) a0 a1 H (retF v H1)) : Ret Try.prog 87 [a0, a1] H v H1 :=
  ret_mk (an := an87) hm Try.call87 Try.func87 rfl wf87 hd hn hb (Eq.mpr (tie87 (real Try.prog) a0 a1 H (retF v H1)) h)
def an90 : An := { imm := [], jn := [], lp := [(2, [0, 1, 7, 8])], loud := [], ord := [] }
def vc90 (C : Cb) (a0 a1 : V) (H : Hp) (R : List V → Hp → Prop) : Prop :=
 C.aLen a0.nod.nod fun v1 =>
 LoopA (fun l2 H3 K4 =>
 C.aBin (Try.prog.underlying 3) .lss (l2.getD 3 .junk).nod (l2.getD 2 .junk).nod fun v5 =>
 aCond v5.nod (
 C.aIx 1 (l2.getD 0 .junk).nod.nod (l2.getD 3 .junk).nod.nod.nod fun v6 =>
 C.aLd 1 false false v6.nod H3 fun v7 H8 =>
 aCallEG C (l2.getD 1 .junk).nod.nod [v7.nod] H8 fun v9 H10 =>
 aCond v9.nod (
 R [(l2.getD 3 .junk).nod.nod] H10) (
 C.aBin (Try.prog.underlying 3) .add (l2.getD 3 .junk).nod (I 1) fun v11 =>
 K4 [(l2.getD 0 .junk), (l2.getD 1 .junk), (l2.getD 2 .junk), v11.nod] H10)) (
 R [(I (-1))] H3))
 [a0, a1, v1, (I 0)] H
theorem wf90 : (Nat.ble 2 Try.f90.ntmps && wfC an90 Try.f90.ntmps (Try.f90.body.getD .skip)) = true := by kernel_rfl
theorem tie90 (C : Cb) (a0 a1 : V) (H : Hp) (R : List V → Hp → Prop) : wpG Try.prog C an90 (Try.f90.body.getD .skip) (argF [a0, a1]) H (retG Try.prog C Try.f90 R) (fun _ _ _ => False) (retG Try.prog C Try.f90 R) = vc90 C a0 a1 H R := by kernel_rfl
theorem mk90 (a0 a1 : V) {H : Hp} {v : V} {H1 : Hp} (hd : v.Nd) (hn : H.length ≤ H1.length) (hb : H1 = H ∨ ∀ (b : Nat) (blk : Blk), H1[b]? = some blk → H[b]? = some blk ∨ BelB H1.length blk) (h : vc90 (real Try.prog) a0 a1 H (retF v H1)) : Ret Try.prog 90 [a0, a1] H v H1 :=
  ret_mk (an := an90) hm Try.call90 Try.func90 rfl wf90 hd hn hb (Eq.mpr (tie90 (real Try.prog) a0 a1 H (retF v H1)) h)
def an91 : An := { imm := [], jn := [], lp := [(2, [0, 1, 7, 8])], loud := [], ord := [] }
def vc91 (C : Cb) (a0 a1 : V) (H : Hp) (R : List V → Hp → Prop) : Prop :=
 C.aLen a0.nod.nod fun v1 =>
 LoopA (fun l2 H3 K4 =>
 C.aBin (Try.prog.underlying 3) .lss (l2.getD 3 .junk).nod (l2.getD 2 .junk).nod fun v5 =>
 aCond v5.nod (
 C.aIx 4 (l2.getD 0 .junk).nod.nod (l2.getD 3 .junk).nod.nod.nod fun v6 =>
 C.aLd 4 true false v6.nod H3 fun v7 H8 =>
 aCallEG C (l2.getD 1 .junk).nod.nod [v7.nod] H8 fun v9 H10 =>
 aCond v9.nod (
 R [(l2.getD 3 .junk).nod.nod] H10) (
 C.aBin (Try.prog.underlying 3) .add (l2.getD 3 .junk).nod (I 1) fun v11 =>
 K4 [(l2.getD 0 .junk), (l2.getD 1 .junk), (l2.getD 2 .junk), v11.nod] H10)) (
 R [(I (-1))] H3))
 [a0, a1, v1, (I 0)] H
theorem wf91 : (Nat.ble 2 Try.f91.ntmps && wfC an91 Try.f91.ntmps (Try.f91.body.getD .skip)) = true := by kernel_rfl
theorem tie91 (C : Cb) (a0 a1 : V) (H : Hp) (R : List V → Hp → Prop) : wpG Try.prog C an91 (Try.f91.body.getD .skip) (argF [a0, a1]) H (retG Try.prog C Try.f91 R) (fun _ _ _ => False) (retG Try.prog C Try.f91 R) = vc91 C a0 a1 H R := by kernel_rfl
theorem mk91 (a0 a1 : V) {H : Hp} {v : V} {H1 : Hp} (hd : v.Nd) (hn : H.length ≤ H1.length) (hb : H1 = H ∨ ∀ (b : Nat) (blk : Blk), H1[b]? = some blk → H[b]? = some blk ∨ BelB H1.length blk) (h : vc91 (real Try.prog) a0 a1 H (retF v H1)) : Ret Try.prog 91 [a0, a1] H v H1 :=
  ret_mk (an := an91) hm Try.call91 Try.func91 rfl wf91 hd hn hb (Eq.mpr (tie91 (real Try.prog) a0 a1 H (retF v H1)) h)
def an92 : An := { imm := [1], jn := [], lp := [], loud := [], ord := [] }
def vc92 (C : Cb) (a0 : V) (H : Hp) (R : List V → Hp → Prop) : Prop :=
 C.aBx true 4 a0.nod H fun v1 H2 =>
 C.aFA 0 1 false v1.nod fun v3 =>
 C.aLd 1 false false v3.nod H2 fun v4 H5 =>
 C.aBin (Try.prog.underlying 57) .eql v4.nod (I 2) fun v6 =>
 R [v6] H5
theorem wf92 : (Nat.ble 1 Try.f92.ntmps && wfC an92 Try.f92.ntmps (Try.f92.body.getD .skip)) = true := by kernel_rfl
theorem tie92 (C : Cb) (a0 : V) (H : Hp) (R : List V → Hp → Prop) : wpG Try.prog C an92 (Try.f92.body.getD .skip) (argF [a0]) H (retG Try.prog C Try.f92 R) (fun _ _ _ => False) (retG Try.prog C Try.f92 R) = vc92 C a0 H R := by kernel_rfl
theorem mk92 (a0 : V) {H : Hp} {v : V} {H1 : Hp} (hd : v.Nd) (hn : H.length ≤ H1.length) (hb : H1 = H ∨ ∀ (b : Nat) (blk : Blk), H1[b]? = some blk → H[b]? = some blk ∨ BelB H1.length blk) (h : vc92 (real Try.prog) a0 H (retF v H1)) : Ret Try.prog 92 [a0] H v H1 :=
  ret_mk (an := an92) hm Try.call92 Try.func92 rfl wf92 hd hn hb (Eq.mpr (tie92 (real Try.prog) a0 H (retF v H1)) h)
def an93 : An := { imm := [], jn := [], lp := [], loud := [], ord := [] }
def vc93 (C : Cb) (H : Hp) (R : List V → Hp → Prop) : Prop :=
 C.aMkM H fun v1 H2 =>
 C.aUpd 57 v1.nod (I 1) (V.fn 98 []) H2 fun v3 H4 =>
 C.aUpd 57 v1.nod (I 2) (V.fn 99 []) H4 fun v5 H6 =>
 C.aUpd 57 v1.nod (I 3) (V.fn 100 []) H6 fun v7 H8 =>
 C.aUpd 57 v1.nod (I 4) (V.fn 101 []) H8 fun v9 H10 =>
 C.aUpd 57 v1.nod (I 5) (V.fn 102 []) H10 fun v11 H12 =>
 R [v1.nod] H12
theorem wf93 : (Nat.ble 0 Try.f93.ntmps && wfC an93 Try.f93.ntmps (Try.f93.body.getD .skip)) = true := by kernel_rfl
theorem tie93 (C : Cb) (H : Hp) (R : List V → Hp → Prop) : wpG Try.prog C an93 (Try.f93.body.getD .skip) (argF []) H (retG Try.prog C Try.f93 R) (fun _ _ _ => False) (retG Try.prog C Try.f93 R) = vc93 C H R := by kernel_rfl
theorem mk93 {H : Hp} {v : V} {H1 : Hp} (hd : v.Nd) (hn : H.length ≤ H1.length) (hb : H1 = H ∨ ∀ (b : Nat) (blk : Blk), H1[b]? = some blk → H[b]? = some blk ∨ BelB H1.length blk) (h : vc93 (real Try.prog) H (retF v H1)) : Ret Try.prog 93 [] H v H1 :=
  ret_mk (an := an93) hm Try.call93 Try.func93 rfl wf93 hd hn hb (Eq.mpr (tie93 (real Try.prog) H (retF v H1)) h)
def an94b : An := { imm := [7], jn := [], lp := [], loud := [], ord := [] }
def vc94b (C : Cb) (a0 : V) (H : Hp) (R : List V → Hp → Prop) : Prop :=
 C.aNilS (Try.prog.underlying 55) .eql a0.nod.nod fun v1 =>
 aCond v1.nod (
 R [(V.arr [] .full)] H) (
 C.aBS 3 0 (V.agg [(I 0), (I 0), (V.arr [] .full)]) [] fun v2 =>
 C.aAppB 3 40 v2 a0.nod.nod H fun v3 H4 =>
 R [v3] H4)
theorem wf94b : (Nat.ble 1 Try.f94.ntmps && wfC an94b Try.f94.ntmps (Try.f94.body.getD .skip)) = true := by kernel_rfl
theorem tie94b (C : Cb) (a0 : V) (H : Hp) (R : List V → Hp → Prop) : wpG Try.prog C an94b (Try.f94.body.getD .skip) (argF [a0]) H (retG Try.prog C Try.f94 R) (fun _ _ _ => False) (retG Try.prog C Try.f94 R) = vc94b C a0 H R := by kernel_rfl
theorem mkE94b (a0 : V) {H : Hp} {Q : V → Hp → Prop} (h : vc94b (real Try.prog) a0 H (retW Q)) : RetE Try.prog 94 [a0] H Q :=
  retE_mk (an := an94b) hm Try.call94 Try.func94 rfl wf94b (Eq.mpr (tie94b (real Try.prog) a0 H (retW Q)) h)
def an95 : An := { imm := [], jn := [(2, [0, 2, 3])], lp := [(1, [0, 2, 3])], loud := [], ord := [] }
def vc95 (C : Cb) (a0 : V) (H : Hp) (R : List V → Hp → Prop) : Prop :=
 C.aLen a0.nod.nod fun v1 =>
 C.aBin (Try.prog.underlying 3) .sub v1.nod (I 1) fun v2 =>
 LoopA (fun l3 H4 K5 =>
 C.aBin (Try.prog.underlying 3) .lss (l3.getD 1 .junk).nod.nod (l3.getD 2 .junk).nod.nod fun v6 =>
 aCond v6.nod (
 Jn (fun l7 H8 =>
 C.aBin (Try.prog.underlying 3) .add (l7.getD 1 .junk).nod.nod (I 1) fun v10 =>
 C.aBin (Try.prog.underlying 3) .sub (l7.getD 2 .junk).nod.nod (I 1) fun v11 =>
 K5 [(l7.getD 0 .junk), v10, v11] H8)
 (fun R9 =>
 C.aIx 3 (l3.getD 0 .junk).nod.nod (l3.getD 2 .junk).nod.nod fun v12 =>
 C.aLd 3 true false v12.nod H4 fun v13 H14 =>
 C.aIx 3 (l3.getD 0 .junk).nod.nod (l3.getD 1 .junk).nod.nod fun v15 =>
 C.aLd 3 true false v15.nod H14 fun v16 H17 =>
 C.aIx 3 (l3.getD 0 .junk).nod.nod (l3.getD 1 .junk).nod.nod fun v18 =>
 C.aSt 3 v18.nod v13 H17 fun v19 H20 =>
 C.aIx 3 (l3.getD 0 .junk).nod.nod (l3.getD 2 .junk).nod.nod fun v21 =>
 C.aSt 3 v21.nod v16 H20 fun v22 H23 =>
 R9 [(l3.getD 0 .junk), (l3.getD 1 .junk), (l3.getD 2 .junk)] H23)) (
 R [] H4))
 [a0, (I 0), v2] H
theorem wf95 : (Nat.ble 1 Try.f95.ntmps && wfC an95 Try.f95.ntmps (Try.f95.body.getD .skip)) = true := by kernel_rfl
theorem tie95 (C : Cb) (a0 : V) (H : Hp) (R : List V → Hp → Prop) : wpG Try.prog C an95 (Try.f95.body.getD .skip) (argF [a0]) H (retG Try.prog C Try.f95 R) (fun _ _ _ => False) (retG Try.prog C Try.f95 R) = vc95 C a0 H R := by kernel_rfl
theorem mkE95 (a0 : V) {H : Hp} {Q : V → Hp → Prop} (h : vc95 (real Try.prog) a0 H (retW Q)) : RetE Try.prog 95 [a0] H Q :=
  retE_mk (an := an95) hm Try.call95 Try.func95 rfl wf95 (Eq.mpr (tie95 (real Try.prog) a0 H (retW Q)) h)
end Go.Proofs.Ytgodfjbmblghnaa


set_option linter.unusedVariables false
set_option linter.unusedSimpArgs false
set_option linter.unnecessarySimpa false
set_option maxRecDepth 20000
set_option maxHeartbeats 2000000
namespace Go.Proofs.Ytgodfjbmblghnaa
open Go Go.Ab Go.Proofs
attribute [local congr] g_bin g_nilS g_nilP g_un g_ext g_bx g_fa g_ld g_st g_ix g_ixA g_slc g_mk g_bs g_bd g_nc g_cv g_len g_lenT g_app g_appB g_cpy g_mm g_call g_callG g_calm g_calmG g_range g_res g_pick g_cond g_loop g_Jv g_eqS g_eqP g_fd g_ixT g_ta g_lkp g_upd g_mkM g_appS g_inv g_callE g_callEG g_invE g_zr g_wr
theorem getD_some (l : List Int) {i : Nat} (h : i < l.length) : l[i]? = some (l.getD i 0) := by simp [List.getD_eq_getElem?_getD, h]
def inB (n lo hi : Int) : Bool := decide (lo ≤ n) && decide (n ≤ hi)
theorem inB_iff {n lo hi : Int} : inB n lo hi = true ↔ lo ≤ n ∧ n ≤ hi := by simp [inB]
def idxI {α : Type} (p : α → Bool) (l : List α) : Int := match l.findIdx? p with | some i => i | none => -1
theorem idxI_any {α : Type} (p : α → Bool) (l : List α) : decide (0 ≤ idxI p l) = l.any p := by
  unfold idxI
  cases h : l.findIdx? p with
  | some i =>
    have : l.any p = true := by
      rw [List.findIdx?_eq_some_iff_getElem] at h
      obtain ⟨hi, hp, -⟩ := h
      exact List.any_eq_true.2 ⟨_, List.getElem_mem hi, hp⟩
    rw [this]; simp
  | none =>
    have : l.any p = false := by
      rw [List.findIdx?_eq_none_iff] at h
      rw [List.any_eq_false]
      intro x hx; simp [h x hx]
    rw [this]; rfl
theorem idxI_at {α : Type} (p : α → Bool) (l : List α) (i : Nat) (x : α) (hx : l[i]? = some x) (hp : p x = true) (hn : ∀ (j : Nat) (y : α), j < i → l[j]? = some y → p y = false) : idxI p l = i := by
  unfold idxI
  have : l.findIdx? p = some i := by
    rw [List.findIdx?_eq_some_iff_getElem]
    obtain ⟨hi, e⟩ := List.getElem?_eq_some_iff.1 hx
    refine ⟨hi, by rw [e]; exact hp, fun j hj => ?_⟩
    rw [hn j _ hj (List.getElem?_eq_getElem (by omega))]; simp
  rw [this]
theorem idxI_none {α : Type} (p : α → Bool) (l : List α) (hn : ∀ (j : Nat) (y : α), l[j]? = some y → p y = false) : idxI p l = -1 := by
  unfold idxI
  have : l.findIdx? p = none := by
    rw [List.findIdx?_eq_none_iff]
    intro x hx
    obtain ⟨j, hj⟩ := List.mem_iff_getElem?.1 hx
    exact hn j x hj
  rw [this]
theorem any_not {α : Type} (p : α → Bool) (l : List α) : (!(l.any fun x => !p x)) = l.all p := by simp [List.not_any_eq_all_not]
theorem getD_someA {α : Type} (l : List α) (d : α) {i : Nat} (h : i < l.length) : l[i]? = some (l.getD i d) := by simp [List.getD_eq_getElem?_getD, h]
theorem getD_memA {α : Type} (l : List α) (d : α) {i : Nat} (h : i < l.length) : l.getD i d ∈ l := List.mem_of_getElem? (getD_someA l d h)
theorem take_snocA {α : Type} (l : List α) (d : α) {i : Nat} (h : i < l.length) : l.take (i + 1) = l.take i ++ [l.getD i d] := by
  rw [List.take_add_one, getD_someA l d h]; rfl
theorem all_take {α : Type} (l : List α) (d : α) (p : α → Bool) {i : Nat} (h : i < l.length) : (l.take (i + 1)).all p = ((l.take i).all p && p (l.getD i d)) := by rw [take_snocA l d h, List.all_append]; simp
theorem all_bad {α : Type} (l : List α) (d : α) (p : α → Bool) {i : Nat} (h : i < l.length) (hp : p (l.getD i d) = false) : l.all p = false := by
  rw [List.all_eq_false]
  exact ⟨_, getD_memA l d h, by rw [hp]; decide⟩
theorem c45 (n lo hi : Int) (H : Hp) : Ret Try.prog 45 [I n, I lo, I hi] H (B (inB n lo hi)) H := by
  refine mk45 _ _ _ rfl (Nat.le_refl _) (.inl rfl) ?_
  simp only [vc45, real]
  repeat (with_reducible first | refine Ju.go ?_ | (refine Hd.go ?_; intro K Q hK hQ; simp only [nod_imm, Try.underlying3, e_geq, e_leq, e_gT, j_and', j_one]; subst hK hQ) | refine Jr.go ?_)
  exact end1 (fzI _)
theorem c70 (n m : Int) (H : Hp) : Ret Try.prog 70 [I n, I m] H (B (inB n (-1) (m - 1))) H := by
  refine mk70 _ _ rfl (Nat.le_refl _) (.inl rfl) ?_
  simp only [vc70, real]
  repeat (with_reducible first | refine Ju.go ?_ | (refine Hd.go ?_; intro K Q hK hQ; simp only [nod_imm, Try.underlying3, Int.reduceNeg, e_geq, e_lss, e_gT, j_and', j_one]; subst hK hQ) | refine Jr.go ?_)
  have : (decide (-1 ≤ n) && decide (n < m)) = inB n (-1) (m - 1) := by
    unfold inB
    have : decide (n < m) = decide (n ≤ m - 1) := by simp only [decide_eq_decide]; omega
    rw [this]
  rw [this]
  exact end1 (fzI _)
abbrev u8V (n : Int) : V := .imm (.int .u8 n)
def bys (s : ByteArray) : List Int := s.toList.map fun b => (b.toNat : Int)
theorem u8s_bys (s : ByteArray) : u8s s = (bys s).map u8V := by unfold u8s bys; rw [List.map_map]; rfl
theorem bys_len (s : ByteArray) : (bys s).length = s.size := by unfold bys; rw [List.length_map, ByteArray.toList_eq]; rfl
theorem ix_u8 (l : List Int) (f : Fl) (i : Int) {K : V → Prop} : aIx 1 (.arr (l.map u8V) f) (I i) K = (0 ≤ i ∧ i < l.length ∧ K (.cptr (u8V (l.getD i.toNat 0)))) := e_ixE u8V 0 (fun _ => rfl) l f i
theorem bys_get (s : ByteArray) {i : Nat} (h : i < s.size) : ((s.toList.getD i 0).toNat : Int) = (bys s).getD i 0 := by
  have hl : i < s.toList.length := by rw [ByteArray.toList_eq]; exact h
  unfold bys
  rw [List.getD_eq_getElem?_getD, List.getD_eq_getElem?_getD, List.getElem?_map, List.getElem?_eq_getElem hl]; rfl
def badB (n : Int) : Bool := decide (n < 33) || decide (126 < n)
def okT (s : ByteArray) : Bool := inB s.size 1 30 && (bys s).all fun n => !badB n
theorem c82 (n : Int) (H : Hp) : Ret Try.prog 82 [u8V n] H (B (badB n)) H := by
  refine mk82 _ rfl (Nat.le_refl _) (.inl rfl) ?_
  simp only [vc82, real]
  repeat (with_reducible first | refine Ju.go ?_ | (refine Hd.go ?_; intro K Q hK hQ; simp only [nod_imm, Try.underlying5, e_lss, e_gtr, e_gF, j_or', j_one]; subst hK hQ) | refine Jr.go ?_)
  exact end1 (fzI _)
theorem c90 (l : List Int) (H : Hp) (hl : l.length ≤ 1000000000000) : Ret Try.prog 90 [.arr (l.map u8V) .no, .fn 82 []] H (I (idxI badB l)) H := by
  refine mk90 _ _ rfl (Nat.le_refl _) (.inl rfl) ?_
  simp only [vc90, real]
  repeat (first | (with_reducible first | refine Ju.go ?_ | (refine Hd.go ?_; intro K Q hK hQ; simp only [nod_arr, nd_no, e_lenA, List.length_map]; subst hK hQ) | refine Jr.go ?_) | refine sd ?_)
  refine loop_of (fun i : Nat => i ≤ l.length ∧ ∀ (j : Nat) (y : Int), j < i → l[j]? = some y → badB y = false) (fun i => [.arr (l.map u8V) .no, .fn 82 [], I l.length, I i]) (fun _ => H) (fun i => l.length - i) 0 ⟨Nat.zero_le _, fun j y h => absurd h (Nat.not_lt_zero _)⟩ rfl rfl ?_
  intro i ⟨hi, hp⟩
  repeat (first | (with_reducible first | refine Ju.go ?_ | (refine Hd.go ?_; intro K Q hK hQ; simp only [List.getD_cons_succ, List.getD_cons_zero, nod_imm, Try.underlying3, e_lss, e_cond, decide_eq_true_eq]; subst hK hQ) | refine Jr.go ?_) | refine sd ?_)
  by_cases hlt : i < l.length
  · have d : (i : Int) < l.length := by omega
    repeat (first | (with_reducible first | refine Ju.go ?_ | (refine Hd.go ?_; intro K Q hK hQ; simp only [d, if_true, List.getD_cons_zero, nod_arr, nd_no, List.getD_cons_succ, nod_imm, ix_u8, Int.toNat_natCast, true_and, nod_cptr, e_ldc, nod_fn, e_callEG]; subst hK hQ) | refine Jr.go ?_) | refine sd ?_)
    refine call_of (c82 _ _) ?_
    by_cases hb : badB (l.getD i 0) = true
    · rw [hb]
      repeat (first | (with_reducible first | refine Ju.go ?_ | (refine Hd.go ?_; intro K Q hK hQ; simp only [nod_imm, e_cond, if_true]; subst hK hQ) | refine Jr.go ?_) | refine sd ?_)
      rw [idxI_at badB l i _ (getD_some l hlt) hb hp]
      exact end1 (fzI _)
    · rw [Bool.eq_false_iff.2 hb]
      repeat (first | (with_reducible first | refine Ju.go ?_ | (refine Hd.go ?_; intro K Q hK hQ; simp only [nod_imm, e_cond, Bool.false_eq_true, if_false, List.getD_cons_succ, List.getD_cons_zero, Try.underlying3, e_add]; subst hK hQ) | refine Jr.go ?_) | refine sd ?_)
      refine ⟨i + 1, ⟨by omega, fun j y hj hy => ?_⟩, rfl, rfl, by omega⟩
      by_cases e : j = i
      · subst e
        rw [getD_some l hlt] at hy
        cases hy
        exact Bool.eq_false_iff.2 hb
      · exact hp j y (by omega) hy
  · have d : ¬ (i : Int) < l.length := by omega
    repeat (first | (with_reducible first | refine Ju.go ?_ | (refine Hd.go ?_; intro K Q hK hQ; simp only [d, if_false]; subst hK hQ) | refine Jr.go ?_) | refine sd ?_)
    rw [idxI_none badB l (fun j y hy => hp j y (by have := (List.getElem?_eq_some_iff.1 hy).1; omega) hy)]
    exact end1 (fzI _)
theorem c81 (l : List Int) (H : Hp) (hl : l.length ≤ 1000000000000) : Ret Try.prog 81 [.arr (l.map u8V) .no, .fn 82 []] H (B (l.any badB)) H := by
  refine mk81 _ _ rfl (Nat.le_refl _) (.inl rfl) ?_
  simp only [vc81, real]
  repeat (first | (with_reducible first | refine Ju.go ?_ | (refine Hd.go ?_; intro K Q hK hQ; simp only [nod_arr, nd_no, nod_fn]; subst hK hQ) | refine Jr.go ?_) | refine sd ?_)
  refine call_of (c90 l H hl) ?_
  repeat (first | (with_reducible first | refine Ju.go ?_ | (refine Hd.go ?_; intro K Q hK hQ; simp only [nod_imm, Try.underlying3, e_geq, idxI_any]; subst hK hQ) | refine Jr.go ?_) | refine sd ?_)
  exact end1 (fzI _)
theorem c73 (s : ByteArray) (H : Hp) : Ret Try.prog 73 [T s] H (B (okT s)) H := by
  refine mk73 _ rfl (Nat.le_refl _) (.inl rfl) ?_
  simp only [vc73, real]
  repeat (first | (with_reducible first | refine Ju.go ?_ | (refine Hd.go ?_; intro K Q hK hQ; simp only [nod_imm, e_tlen]; subst hK hQ) | refine Jr.go ?_) | refine sd ?_)
  refine call_of (c45 _ _ _ _) ?_
  repeat (first | (with_reducible first | refine Ju.go ?_ | (refine Hd.go ?_; intro K Q hK hQ; simp only [nod_imm, e_tb, nod_arr, nd_no, e_gT]; subst hK hQ) | refine Jr.go ?_) | refine sd ?_)
  by_cases h : inB s.size 1 30 = true
  · have h1 := inB_iff.1 h
    rw [h]
    repeat (first | (with_reducible first | refine Ju.go ?_ | (refine Hd.go ?_; intro K Q hK hQ; simp only [cond_true, u8s_bys]; subst hK hQ) | refine Jr.go ?_) | refine sd ?_)
    refine call_of (c81 (bys s) _ (by rw [bys_len]; omega)) ?_
    repeat (first | (with_reducible first | refine Ju.go ?_ | (refine Hd.go ?_; intro K Q hK hQ; simp only [nod_imm, e_not]; subst hK hQ) | refine Jr.go ?_) | refine sd ?_)
    have : okT s = !((bys s).any badB) := by
      unfold okT
      rw [h, Bool.true_and]
      simp [List.not_any_eq_all_not]
    rw [this]
    exact end1 (fzI _)
  · have : okT s = false := by unfold okT; rw [Bool.eq_false_iff.2 h]; rfl
    rw [this, Bool.eq_false_iff.2 h]
    repeat (first | (with_reducible first | refine Ju.go ?_ | (refine Hd.go ?_; intro K Q hK hQ; simp only [cond_false]; subst hK hQ) | refine Jr.go ?_) | refine sd ?_)
    exact end1 (fzI _)
theorem c71 (s : ByteArray) (H : Hp) (hs : s.size ≤ 9223372036854775807) : Ret Try.prog 71 [T s] H (B (okT s)) H := by
  refine mk71 _ rfl (Nat.le_refl _) (.inl rfl) ?_
  simp only [vc71, real]
  repeat (first | (with_reducible first | refine Ju.go ?_ | (refine Hd.go ?_; intro K Q hK hQ; simp only [Try.underlying3, Try.underlying4, Try.underlying5, Try.underlying9, Try.underlying29, Try.underlying57, Try.underlying55, j_one, j_side, j_tl, j_fl, nod_nod, nod_imm, nod_ints, nd_no, nd_own, nd_full, nd_fO, oF_ap, oF_succ, nod_sl, nod_ptr, nod_cptr, nod_fn, nod_junk, nodL_imm, nod_agg, nod_tup, nod2_imm, nod2_agg, cl_imm, cl_ints, cl_agg, e_add, e_sub, e_mul, e_quo, e_rem, e_eql, e_neq, e_lss, e_leq, e_gtr, e_geq, e_beq, e_bne, e_neg, e_not, e_pick, e_cond, e_gT, e_gF, e_len, e_lenA, e_lenS, e_ix, e_ixS, e_ldc, e_ldci, e_fa, rep_cl, rep_I, e_bx, okE_I, okE_B, okE_E8, okE_ints, stV_imm, stV_ints, j_and', j_or', List.getD_cons_zero, List.getD_cons_succ, List.map_cons, List.map_nil, decide_eq_true_eq, Int.toNat_natCast, Nat.mul_one, Nat.zero_add, true_and, and_true, List.length_map, Bool.not_eq_true', decide_eq_false_iff_not, nod_lists, e_lenL, e_ixL, okE_lists, bs1, bs1L, bs2L, e_app, e_appL, e_app0, e_app0L, e_slcLo, e_slcHi, e_slcLH, e_slcHH, e_slcLHH, e_callG, e_callY, e_calmG, e_slS0, e_slSLo, e_slSHi, e_slSLH, e_slSHH, e_slSLHH, e_max2, e_min2, e_max3, e_x20, e_x21, e_x30, e_x31, e_x32, nod2_ints, nod2_lists, rep_fl, bs0, e_nilE, if_true, if_false, cond_true, cond_false, decide_true, decide_false, eq_self, Bool.false_eq_true, false_implies, true_implies, ap_own, ap_full, e_slcLoL, e_slcHiL, e_slcLHL, hp_assoc, hp_cons, hp_nil, hp_len, hp_len_cons, hp_len_nil, lv_cons, lv_nil, vs_0, vs_s, spl_s, spl_0, spl_n, dr_s, dr_0, tk_s, tk_0, e_bxI, e_fac, e_facA, e_ldcA, e_ldcL, e_ldcF, okE_agg, ck_I, ck_B, ck_ints, ck_lists, ck_arr, ck_ptr, ck_cptr, ck_fn, all_c, all_n, stV_agg, stV_lists, stV_arr, stV_ptr, stV_cptr, stV_fn, nodL_ints, nodL_lists, nodL_ptr, nodL_cptr, nodL_fn, nodL_arr0, cl_arr, cl_ptr, cl_cptr, cl_fn, cl_lists, okE_arr, okE_fn, okE_ptr, okE_cptr, e_bd0, e_bd1, e_wr, Nat.reduceAdd, Nat.reduceLeDiff, Nat.reduceEqDiff, Nat.add_zero, Bool.and_self, Bool.true_and, Bool.and_true, e_lc0, e_lA0, e_lM0, e_sc0, e_rc0, e_rA0, e_lI0, e_sI0, e_cI0, e_lc1, e_lA1, e_lM1, e_sc1, e_rc1, e_rA1, e_lI1, e_sI1, e_cI1, e_lc2, e_lA2, e_lM2, e_sc2, e_rc2, e_rA2, e_lI2, e_sI2, e_cI2, e_lc3, e_lA3, e_lM3, e_sc3, e_rc3, e_rA3, e_lI3, e_sI3, e_cI3, e_lc4, e_lA4, e_lM4, e_sc4, e_rc4, e_rA4, e_lI4, e_sI4, e_cI4, e_lc5, e_lA5, e_lM5, e_sc5, e_rc5, e_rA5, e_lI5, e_sI5, e_cI5, own0_arr, own0_ints, own0_lists, own0_imm, own0_ptr, own0_cptr, own0_fn, own0_agg, e_appB, e_appB0, ck_sl, own0_sl, stV_sl, nodL_sl, cl_sl, okE_sl, e_mkM, e_mkI, e_mkIm, e_callB, nod_bfn, nod_ifc, nod_map, nodL_ifc, nodL_bfn, nodL_map, cl_ifc, cl_bfn, ck_ifc, ck_bfn, ck_map, stV_ifc, okE_ifc, okE_bfn, nod_arr, nodL_arr, e_addU, e_mulU, e_shrK, e_shlK, e_andK, e_cv64, e_cv32, e_callEG, e_callEY, e_callEB, e_zr, e_nilSl, e_ncP, e_ncC, e_npnP, e_npeP, e_npnC, e_npeC, e_npnN, e_npeN, e_ixAP, e_ldcP, e_ldcS, e_ldcV, e_ldcT, okE_nilP, ck_nilP, okE_nilI, ck_nilI, okE_str, ck_str, e_tlen, e_tix, e_teq, e_tne, e_tadd, e_tb, e_u8lss, e_u8gtr, noV_full, nod_arr, List.length_map, reduceIte, Int.reduceEq, Int.reduceNeg, ne_eq, not_true_eq_false, not_false_eq_true, Bool.not_true, Bool.not_false, Bool.true_or, Bool.or_true, Bool.false_or, Bool.or_false, Bool.and_true, Bool.and_false, Bool.false_and, Bool.not_not, Bool.or_self, List.length_nil, Int.ofNat_zero, Int.cast_ofNat_Int, Int.natCast_zero, beq_self_eq_true, Bool.true_eq_false]; subst hK hQ) | refine Jr.go ?_) | refine sd ?_)
  refine loop_of (fun i : Nat => i ≤ s.size ∧ ((bys s).take i).all (fun n => !badB n) = true) (fun i => [T s, I i]) (fun _ => H) (fun i => s.size - i) 0 ⟨Nat.zero_le _, rfl⟩ rfl rfl ?_
  intro i ⟨hi, hp⟩
  repeat (first | (with_reducible first | refine Ju.go ?_ | (refine Hd.go ?_; intro K Q hK hQ; simp only [List.getD_cons_zero, nod_imm, e_tlen, List.getD_cons_succ, Try.underlying3, e_lss, e_cond, decide_eq_true_eq]; subst hK hQ) | refine Jr.go ?_) | refine sd ?_)
  by_cases hlt : i < s.size
  · have d : (i : Int) < s.size := by omega
    have hb := bys_get s hlt
    have hl2 : i < (bys s).length := by rw [bys_len]; exact hlt
    repeat (first | (with_reducible first | refine Ju.go ?_ | (refine Hd.go ?_; intro K Q hK hQ; simp only [d, if_true, List.getD_cons_zero, nod_imm, List.getD_cons_succ, e_tix, Int.toNat_natCast, hb, true_and, Try.underlying5, e_lss, e_gtr, e_gF, j_fl, decide_eq_false_iff_not, j_or', j_side, j_one, e_cond]; subst hK hQ) | refine Jr.go ?_) | refine sd ?_)
    by_cases hq : (decide ((bys s).getD i 0 < 33) || decide (126 < (bys s).getD i 0)) = true
    · repeat (first | (with_reducible first | refine Ju.go ?_ | (refine Hd.go ?_; intro K Q hK hQ; simp only [hq, if_true]; subst hK hQ) | refine Jr.go ?_) | refine sd ?_)
      have : okT s = false := by unfold okT; rw [all_bad (bys s) 0 _ hl2 (by show (!badB _) = false; unfold badB; rw [hq]; rfl), Bool.and_false]
      rw [this]
      exact end1 (fzI _)
    · repeat (first | (with_reducible first | refine Ju.go ?_ | (refine Hd.go ?_; intro K Q hK hQ; simp only [hq, Bool.false_eq_true, if_false, List.getD_cons_succ, List.getD_cons_zero, nod_imm, Try.underlying3, e_add]; subst hK hQ) | refine Jr.go ?_) | refine sd ?_)
      refine ⟨i + 1, ⟨by omega, ?_⟩, rfl, rfl, by omega⟩
      rw [all_take (bys s) 0 _ hl2, hp, Bool.true_and]
      show (!badB _) = true
      unfold badB; rw [Bool.eq_false_iff.2 hq]; rfl
  · have d : ¬ (i : Int) < s.size := by omega
    repeat (first | (with_reducible first | refine Ju.go ?_ | (refine Hd.go ?_; intro K Q hK hQ; simp only [d, if_false, List.getD_cons_zero, nod_imm, e_tlen, Try.underlying3, e_geq, e_leq, e_gT, j_and', j_one]; subst hK hQ) | refine Jr.go ?_) | refine sd ?_)
    have e : (bys s).take i = bys s := List.take_of_length_le (by rw [bys_len]; omega)
    rw [e] at hp
    have : okT s = (decide ((1 : Int) ≤ s.size) && decide ((s.size : Int) ≤ 30)) := by unfold okT; rw [hp, Bool.and_true]; rfl
    rw [this]
    exact end1 (fzI _)
end Go.Proofs.Ytgodfjbmblghnaa


set_option linter.unusedVariables false
set_option linter.unusedSimpArgs false
set_option linter.unnecessarySimpa false
set_option maxRecDepth 20000
set_option maxHeartbeats 2000000
namespace Go.Proofs.Ytgodfjbmblghnaa
open Go Go.Ab Go.Proofs
attribute [local congr] g_bin g_nilS g_nilP g_un g_ext g_bx g_fa g_ld g_st g_ix g_ixA g_slc g_mk g_bs g_bd g_nc g_cv g_len g_lenT g_app g_appB g_cpy g_mm g_call g_callG g_calm g_calmG g_range g_res g_pick g_cond g_loop g_Jv g_eqS g_eqP g_fd g_ixT g_ta g_lkp g_upd g_mkM g_appS g_inv g_callE g_callEG g_invE g_zr g_wr
structure Fo where
  g : Int
  k : Int
  c : Int
  t : ByteArray
deriving Inhabited
structure Te where
  g : Int
  f : List Fo
deriving Inhabited
structure Pl where
  m : Int
  f : Int
  t : Int
  c : Int
deriving Inhabited
structure Pi where
  k : Int
  t : Int
  s : Int
  b : Int
deriving Inhabited
structure Nu where
  b : Int
  d : Int
  p : List Pi
deriving Inhabited
structure Sy where
  top : Int
  gen : Int
  cas : Int
  cls : Int
  te : List Te
  pl : List Pl
  se : List (List Nu)
deriving Inhabited
abbrev foV (f : Fo) : V := .agg [I f.g, I f.k, I f.c, T f.t]
abbrev teV (t : Te) : V := .agg [I t.g, .arr (t.f.map foV) .no]
abbrev plV (p : Pl) : V := .agg [I p.m, I p.f, I p.t, I p.c]
abbrev piV (p : Pi) : V := .agg [I p.k, I p.t, I p.s, I p.b]
abbrev nuV (r : Nu) : V := .agg [I r.b, I r.d, .arr (r.p.map piV) .no]
abbrev seV (l : List Nu) : V := .arr (l.map nuV) .no
abbrev syV (s : Sy) : V := .agg [I s.top, I s.gen, I s.cas, I s.cls, .arr (s.te.map teV) .no, .arr (s.pl.map plV) .no, .arr (s.se.map seV) .no]
theorem ix_fo (l : List Fo) (f : Fl) (i : Int) {K : V → Prop} : aIx 4 (.arr (l.map foV) f) (I i) K = (0 ≤ i ∧ i < l.length ∧ K (.cptr (foV (l.getD i.toNat default)))) := e_ixE foV default (fun _ => rfl) l f i
theorem ix_te (l : List Te) (f : Fl) (i : Int) {K : V → Prop} : aIx 2 (.arr (l.map teV) f) (I i) K = (0 ≤ i ∧ i < l.length ∧ K (.cptr (teV (l.getD i.toNat default)))) := e_ixE teV default (fun _ => rfl) l f i
theorem ix_pl (l : List Pl) (f : Fl) (i : Int) {K : V → Prop} : aIx 4 (.arr (l.map plV) f) (I i) K = (0 ≤ i ∧ i < l.length ∧ K (.cptr (plV (l.getD i.toNat default)))) := e_ixE plV default (fun _ => rfl) l f i
theorem ix_pi (l : List Pi) (f : Fl) (i : Int) {K : V → Prop} : aIx 4 (.arr (l.map piV) f) (I i) K = (0 ≤ i ∧ i < l.length ∧ K (.cptr (piV (l.getD i.toNat default)))) := e_ixE piV default (fun _ => rfl) l f i
theorem ix_nu (l : List Nu) (f : Fl) (i : Int) {K : V → Prop} : aIx 3 (.arr (l.map nuV) f) (I i) K = (0 ≤ i ∧ i < l.length ∧ K (.cptr (nuV (l.getD i.toNat default)))) := e_ixE nuV default (fun _ => rfl) l f i
theorem ix_se (l : List (List Nu)) (f : Fl) (i : Int) {K : V → Prop} : aIx 1 (.arr (l.map seV) f) (I i) K = (0 ≤ i ∧ i < l.length ∧ K (.cptr (seV (l.getD i.toNat [])))) := e_ixE seV [] (fun _ => rfl) l f i
structure Sm (s : Sy) : Prop where
  te : s.te.length ≤ 9223372036854775807
  pl : s.pl.length ≤ 9223372036854775807
  se : s.se.length ≤ 9223372036854775807
  fo : ∀ t, t ∈ s.te → t.f.length ≤ 9223372036854775807 ∧ ∀ f, f ∈ t.f → f.t.size ≤ 9223372036854775807
  nu : ∀ l, l ∈ s.se → l.length ≤ 9223372036854775807 ∧ ∀ r, r ∈ l → r.p.length ≤ 9223372036854775807
structure Fe (s : Sy) : Prop where
  g : 1 ≤ s.gen ∧ s.gen ≤ 4
  k : 1 ≤ s.cas ∧ s.cas ≤ 8
  c : 1 ≤ s.cls ∧ s.cls ≤ 6
theorem Fe.r {s : Sy} (h : Fe s) : R64 (s.gen - 1) ∧ R64 (s.cas - 1) ∧ R64 (s.cls - 1) := by
  have := h.g
  have := h.k
  have := h.c
  unfold R64; omega
def okFo (s : Sy) (f : Fo) : Bool := inB f.g (-1) (s.gen - 1) && inB f.k (-1) (s.cas - 1) && inB f.c (-1) (s.cls - 1) && okT f.t
def okTe (s : Sy) (t : Te) : Bool := inB t.g 0 (s.gen - 1) && decide ((t.f.length : Int) ≤ 60) && t.f.all (okFo s)
def okPl (s : Sy) (p : Pl) : Bool := inB p.m 1 1000000 && decide (0 ≤ p.f) && decide (p.f ≤ p.t) && decide (p.t < p.m) && inB p.c 0 (s.cls - 1)
theorem c46 (s : Sy) (H : Hp) (sm : Sm s) (fe : Fe s) : Ret Try.prog 46 [syV s] H (B (s.te.all (okTe s))) H := by
  have h1 := sm.te
  obtain ⟨r1, r2, r3⟩ := fe.r
  refine mk46 _ rfl (Nat.le_refl _) (.inl rfl) ?_
  simp only [vc46, real]
  repeat (first | (with_reducible first | refine Ju.go ?_ | (refine Hd.go ?_; intro K Q hK hQ; simp only [nod_agg, List.map_cons, nodL_imm, nodL_arr, nd_no, List.map_nil, e_bxI, okE_agg, lv_cons, List.length_nil, Nat.zero_add, Nat.reduceAdd, all_c, ck_I, ck_arr, all_n, Bool.and_self, and_true, true_and, nod_cptr, e_fac, Nat.reduceLeDiff, List.getD_cons_succ, List.getD_cons_zero, e_ldcV, nod_arr, e_lenA, List.length_map]; subst hK hQ) | refine Jr.go ?_) | refine sd ?_)
  refine loop_of (fun i : Nat => i ≤ s.te.length ∧ (s.te.take i).all (okTe s) = true) (fun i => [.cptr (syV s), .arr (s.te.map teV) .no, I s.te.length, I i]) (fun _ => H) (fun i => s.te.length - i) 0 ⟨Nat.zero_le _, rfl⟩ rfl rfl ?_
  intro i ⟨hi, hp⟩
  repeat (first | (with_reducible first | refine Ju.go ?_ | (refine Hd.go ?_; intro K Q hK hQ; simp only [List.getD_cons_succ, List.getD_cons_zero, nod_imm, Try.underlying3, e_lss, e_cond, decide_eq_true_eq]; subst hK hQ) | refine Jr.go ?_) | refine sd ?_)
  by_cases hlt : i < s.te.length
  · have d : (i : Int) < s.te.length := by omega
    have hm := sm.fo _ (getD_memA s.te default hlt)
    have hbad : okTe s (s.te.getD i default) = false → s.te.all (okTe s) = false := all_bad s.te default (okTe s) hlt
    have hgood : okTe s (s.te.getD i default) = true → (s.te.take (i + 1)).all (okTe s) = true := fun h => by rw [all_take s.te default _ hlt, hp, h]; rfl
    repeat (first | (with_reducible first | refine Ju.go ?_ | (refine Hd.go ?_; intro K Q hK hQ; simp only [d, if_true, List.getD_cons_succ, List.getD_cons_zero, nod_arr, nd_no, nod_imm, ix_te, Int.toNat_natCast, true_and, nod_cptr, e_ldcA, lv_cons, List.length_nil, Nat.zero_add, Nat.reduceAdd, nod_agg, List.map_cons, nodL_imm, nodL_arr, List.map_nil, e_bxI, okE_agg, all_c, ck_I, ck_arr, all_n, Bool.and_self, and_true, e_fac, Nat.reduceLeDiff, e_ldc, Try.underlying3, e_sub]; subst hK hQ) | refine Jr.go ?_) | refine sd ?_)
    generalize s.te.getD i default = t at *
    refine call_of (c45 _ _ _ _) ?_
    repeat (first | (with_reducible first | refine Ju.go ?_ | (refine Hd.go ?_; intro K Q hK hQ; simp only [nod_imm, e_not, nod_cptr, Try.underlying3, e_fac, Nat.reduceAdd, lv_cons, List.length_nil, Nat.zero_add, Nat.reduceLeDiff, List.getD_cons_succ, List.getD_cons_zero, e_ldcV, nod_arr, nd_no, e_lenA, List.length_map, e_gtr, true_and, e_gF, j_or', j_one, e_cond]; subst hK hQ) | refine Jr.go ?_) | refine sd ?_)
    by_cases hq : (!inB t.g 0 (s.gen - 1) || decide (60 < (t.f.length : Int))) = true
    · repeat (first | (with_reducible first | refine Ju.go ?_ | (refine Hd.go ?_; intro K Q hK hQ; simp only [hq, if_true]; subst hK hQ) | refine Jr.go ?_) | refine sd ?_)
      have : okTe s t = false := by
        unfold okTe
        simp only [Bool.or_eq_true, Bool.not_eq_true', decide_eq_true_eq] at hq
        rcases hq with hq | hq
        · rw [hq]; rfl
        · rw [decide_eq_false (by omega)]; simp
      rw [hbad this]
      exact end1 (fzI _)
    · repeat (first | (with_reducible first | refine Ju.go ?_ | (refine Hd.go ?_; intro K Q hK hQ; simp only [hq, Bool.false_eq_true, if_false, List.getD_cons_succ, List.getD_cons_zero, nod_cptr, e_fac, Nat.reduceAdd, lv_cons, List.length_nil, Nat.zero_add, Nat.reduceLeDiff, true_and, e_ldcV, nod_arr, nd_no, e_lenA, List.length_map]; subst hK hQ) | refine Jr.go ?_) | refine sd ?_)
      simp only [Bool.or_eq_true, Bool.not_eq_true', decide_eq_true_eq, not_or, Bool.not_eq_false, Int.not_lt] at hq
      refine loop_of (fun k : Nat => k ≤ t.f.length ∧ (t.f.take k).all (okFo s) = true) (fun k => [.cptr (syV s), .arr (s.te.map teV) .no, I s.te.length, I i, .arr (t.f.map foV) .no, I t.f.length, I k]) (fun _ => H) (fun k => t.f.length - k) 0 ⟨Nat.zero_le _, rfl⟩ rfl rfl ?_
      intro k ⟨hk, hpk⟩
      repeat (first | (with_reducible first | refine Ju.go ?_ | (refine Hd.go ?_; intro K Q hK hQ; simp only [List.getD_cons_succ, List.getD_cons_zero, nod_imm, Try.underlying3, e_lss, e_cond, decide_eq_true_eq]; subst hK hQ) | refine Jr.go ?_) | refine sd ?_)
      by_cases hkt : k < t.f.length
      · have d2 : (k : Int) < t.f.length := by omega
        repeat (first | (with_reducible first | refine Ju.go ?_ | (refine Hd.go ?_; intro K Q hK hQ; simp only [d2, if_true, List.getD_cons_succ, List.getD_cons_zero, nod_arr, nd_no, nod_imm, ix_fo, Int.toNat_natCast, true_and, nod_cptr, e_ldcA, lv_cons, List.length_nil, Nat.zero_add, Nat.reduceAdd, nod_agg, List.map_cons, nodL_imm, List.map_nil, e_bxI, okE_agg, all_c, ck_I, ck_str, all_n, Bool.and_self, and_true, e_fac, Nat.reduceLeDiff, e_ldc, Try.underlying3, e_sub, Int.reduceNeg]; subst hK hQ) | refine Jr.go ?_) | refine sd ?_)
        have hb2 : okFo s (t.f.getD k default) = false → t.f.all (okFo s) = false := all_bad t.f default (okFo s) hkt
        have hg2 : okFo s (t.f.getD k default) = true → (t.f.take (k + 1)).all (okFo s) = true := fun h => by rw [all_take t.f default _ hkt, hpk, h]; rfl
        generalize t.f.getD k default = f at *
        refine call_of (c45 _ _ _ _) ?_
        repeat (first | (with_reducible first | refine Ju.go ?_ | (refine Hd.go ?_; intro K Q hK hQ; simp only [Int.reduceNeg, nod_imm, e_not, nod_cptr, List.getD_cons_zero, Try.underlying3, e_fac, Nat.reduceAdd, lv_cons, List.length_nil, Nat.zero_add, Nat.reduceLeDiff, List.getD_cons_succ, e_ldc, e_sub, r2, true_and, e_gF]; subst hK hQ) | refine Jr.go ?_) | refine sd ?_)
        refine jo_n (c45 _ _ _ _) ?_
        repeat (first | (with_reducible first | refine Ju.go ?_ | (refine Hd.go ?_; intro K Q hK hQ; simp only [Int.reduceNeg, nod_imm, nod_cptr, List.getD_cons_zero, Try.underlying3, e_fac, Nat.reduceAdd, lv_cons, List.length_nil, Nat.zero_add, Nat.reduceLeDiff, List.getD_cons_succ, e_ldc, e_sub, r3, true_and, e_gF]; subst hK hQ) | refine Jr.go ?_) | refine sd ?_)
        refine jo_n (c45 _ _ _ _) ?_
        repeat (first | (with_reducible first | refine Ju.go ?_ | (refine Hd.go ?_; intro K Q hK hQ; simp only [Int.reduceNeg, nod_imm, nod_cptr, e_fac, Nat.reduceAdd, lv_cons, List.length_nil, Nat.zero_add, Nat.reduceLeDiff, List.getD_cons_succ, List.getD_cons_zero, e_ldc, true_and, e_gF]; subst hK hQ) | refine Jr.go ?_) | refine sd ?_)
        refine jo_n (c73 _ _) ?_
        have e : (!inB f.g (-1) (s.gen - 1) || !inB f.k (-1) (s.cas - 1) || !inB f.c (-1) (s.cls - 1) || !okT f.t) = !okFo s f := by unfold okFo; simp only [Bool.not_and]
        by_cases ho : okFo s f = true
        · rw [ho] at e
          repeat (first | (with_reducible first | refine Ju.go ?_ | (refine Hd.go ?_; intro K Q hK hQ; simp only [Int.reduceNeg, e, Bool.not_true, List.getD_cons_zero, List.getD_cons_succ, nod_imm, e_cond, Bool.false_eq_true, if_false, Try.underlying3, e_add]; subst hK hQ) | refine Jr.go ?_) | refine sd ?_)
          exact ⟨k + 1, ⟨by omega, hg2 ho⟩, rfl, rfl, by omega⟩
        · rw [Bool.eq_false_iff.2 ho] at e
          repeat (first | (with_reducible first | refine Ju.go ?_ | (refine Hd.go ?_; intro K Q hK hQ; simp only [Int.reduceNeg, e, Bool.not_false, List.getD_cons_zero, List.getD_cons_succ, nod_imm, e_cond, if_true]; subst hK hQ) | refine Jr.go ?_) | refine sd ?_)
          have : okTe s t = false := by unfold okTe; rw [hb2 (Bool.eq_false_iff.2 ho), Bool.and_false]
          rw [hbad this]
          exact end1 (fzI _)
      · have d2 : ¬ (k : Int) < t.f.length := by omega
        repeat (first | (with_reducible first | refine Ju.go ?_ | (refine Hd.go ?_; intro K Q hK hQ; simp only [d2, if_false, List.getD_cons_succ, List.getD_cons_zero, nod_imm, Try.underlying3, e_add]; subst hK hQ) | refine Jr.go ?_) | refine sd ?_)
        rw [List.take_of_length_le (by omega)] at hpk
        refine ⟨i + 1, ⟨by omega, hgood ?_⟩, rfl, rfl, by omega⟩
        unfold okTe
        rw [hq.1, hpk, decide_eq_true hq.2]; rfl
  · have d : ¬ (i : Int) < s.te.length := by omega
    repeat (first | (with_reducible first | refine Ju.go ?_ | (refine Hd.go ?_; intro K Q hK hQ; simp only [d, if_false]; subst hK hQ) | refine Jr.go ?_) | refine sd ?_)
    rw [List.take_of_length_le (by omega)] at hp
    rw [hp]
    exact end1 (fzI _)
theorem c47 (s : Sy) (H : Hp) (sm : Sm s) (fe : Fe s) : Ret Try.prog 47 [syV s] H (B (s.pl.all (okPl s))) H := by
  have h1 := sm.pl
  obtain ⟨r1, r2, r3⟩ := fe.r
  refine mk47 _ rfl (Nat.le_refl _) (.inl rfl) ?_
  simp only [vc47, real]
  repeat (first | (with_reducible first | refine Ju.go ?_ | (refine Hd.go ?_; intro K Q hK hQ; simp only [nod_agg, List.map_cons, nodL_imm, nodL_arr, nd_no, List.map_nil, e_bxI, okE_agg, lv_cons, List.length_nil, Nat.zero_add, Nat.reduceAdd, all_c, ck_I, ck_arr, all_n, Bool.and_self, and_true, true_and, nod_cptr, e_fac, Nat.reduceLeDiff, List.getD_cons_succ, List.getD_cons_zero, e_ldcV, nod_arr, e_lenA, List.length_map]; subst hK hQ) | refine Jr.go ?_) | refine sd ?_)
  refine loop_of (fun i : Nat => i ≤ s.pl.length ∧ (s.pl.take i).all (okPl s) = true) (fun i => [.cptr (syV s), .arr (s.pl.map plV) .no, I s.pl.length, I i]) (fun _ => H) (fun i => s.pl.length - i) 0 ⟨Nat.zero_le _, rfl⟩ rfl rfl ?_
  intro i ⟨hi, hp⟩
  repeat (first | (with_reducible first | refine Ju.go ?_ | (refine Hd.go ?_; intro K Q hK hQ; simp only [List.getD_cons_succ, List.getD_cons_zero, nod_imm, Try.underlying3, e_lss, e_cond, decide_eq_true_eq]; subst hK hQ) | refine Jr.go ?_) | refine sd ?_)
  by_cases hlt : i < s.pl.length
  · have d : (i : Int) < s.pl.length := by omega
    have hbad : okPl s (s.pl.getD i default) = false → s.pl.all (okPl s) = false := all_bad s.pl default (okPl s) hlt
    have hgood : okPl s (s.pl.getD i default) = true → (s.pl.take (i + 1)).all (okPl s) = true := fun h => by rw [all_take s.pl default _ hlt, hp, h]; rfl
    repeat (first | (with_reducible first | refine Ju.go ?_ | (refine Hd.go ?_; intro K Q hK hQ; simp only [d, if_true, List.getD_cons_succ, List.getD_cons_zero, nod_arr, nd_no, nod_imm, ix_pl, Int.toNat_natCast, true_and, nod_cptr, e_ldcA, lv_cons, List.length_nil, Nat.zero_add, Nat.reduceAdd, nod_agg, List.map_cons, nodL_imm, List.map_nil, e_bxI, okE_agg, all_c, ck_I, all_n, Bool.and_self, and_true, e_fac, Nat.reduceLeDiff, e_ldc]; subst hK hQ) | refine Jr.go ?_) | refine sd ?_)
    generalize s.pl.getD i default = p at *
    refine call_of (c45 _ _ _ _) ?_
    repeat (first | (with_reducible first | refine Ju.go ?_ | (refine Hd.go ?_; intro K Q hK hQ; simp only [nod_imm, e_not, nod_cptr, Try.underlying3, e_fac, Nat.reduceAdd, lv_cons, List.length_nil, Nat.zero_add, Nat.reduceLeDiff, List.getD_cons_succ, List.getD_cons_zero, e_ldc, e_lss, true_and, e_gF, j_or', j_one, e_gtr, e_geq, e_sub, r3]; subst hK hQ) | refine Jr.go ?_) | refine sd ?_)
    refine jo_n (c45 _ _ _ _) ?_
    have e : (!inB p.m 1 1000000 || decide (p.f < 0) || decide (p.t < p.f) || decide (p.m ≤ p.t) || !inB p.c 0 (s.cls - 1)) = !okPl s p := by
      unfold okPl
      simp only [Bool.not_and]
      have e1 : decide (p.f < 0) = !decide (0 ≤ p.f) := by rw [← decide_not, decide_eq_decide]; omega
      have e2 : decide (p.t < p.f) = !decide (p.f ≤ p.t) := by rw [← decide_not, decide_eq_decide]; omega
      have e3 : decide (p.m ≤ p.t) = !decide (p.t < p.m) := by rw [← decide_not, decide_eq_decide]; omega
      rw [e1, e2, e3]
    by_cases ho : okPl s p = true
    · rw [ho] at e
      repeat (first | (with_reducible first | refine Ju.go ?_ | (refine Hd.go ?_; intro K Q hK hQ; simp only [e, Bool.not_true, List.getD_cons_zero, List.getD_cons_succ, nod_imm, e_cond, Bool.false_eq_true, if_false, Try.underlying3, e_add]; subst hK hQ) | refine Jr.go ?_) | refine sd ?_)
      exact ⟨i + 1, ⟨by omega, hgood ho⟩, rfl, rfl, by omega⟩
    · rw [Bool.eq_false_iff.2 ho] at e
      repeat (first | (with_reducible first | refine Ju.go ?_ | (refine Hd.go ?_; intro K Q hK hQ; simp only [e, Bool.not_false, List.getD_cons_zero, List.getD_cons_succ, nod_imm, e_cond, if_true]; subst hK hQ) | refine Jr.go ?_) | refine sd ?_)
      rw [hbad (Bool.eq_false_iff.2 ho)]
      exact end1 (fzI _)
  · have d : ¬ (i : Int) < s.pl.length := by omega
    repeat (first | (with_reducible first | refine Ju.go ?_ | (refine Hd.go ?_; intro K Q hK hQ; simp only [d, if_false]; subst hK hQ) | refine Jr.go ?_) | refine sd ?_)
    rw [List.take_of_length_le (by omega)] at hp
    rw [hp]
    exact end1 (fzI _)
theorem c43 (s : Sy) (t : Te) (H : Hp) (hf : t.f.length ≤ 9223372036854775807) (hs : ∀ f, f ∈ t.f → f.t.size ≤ 9223372036854775807) : Ret Try.prog 43 [syV s, teV t] H (B (okTe s t)) H := by
  refine mk43 _ _ rfl (Nat.le_refl _) (.inl rfl) ?_
  simp only [vc43, real]
  repeat (first | (with_reducible first | refine Ju.go ?_ | (refine Hd.go ?_; intro K Q hK hQ; simp only [nod_agg, List.map_cons, nodL_imm, nodL_arr, nd_no, List.map_nil, e_bxI, okE_agg, lv_cons, List.length_nil, Nat.zero_add, Nat.reduceAdd, all_c, ck_I, ck_arr, all_n, Bool.and_self, and_true, true_and, nod_cptr, e_fac, Nat.reduceLeDiff, List.getD_cons_zero, e_ldc, nod_imm, Try.underlying3, e_lss, List.getD_cons_succ, e_geq, e_gF, j_or', j_one, e_ldcV, nod_arr, e_lenA, List.length_map, e_gtr, e_cond]; subst hK hQ) | refine Jr.go ?_) | refine sd ?_)
  have e0 : (decide (t.g < 0) || decide (s.gen ≤ t.g) || decide (60 < (t.f.length : Int))) = !(inB t.g 0 (s.gen - 1) && decide ((t.f.length : Int) ≤ 60)) := by
    rw [Bool.eq_iff_iff]
    simp only [inB, Bool.or_eq_true, Bool.not_eq_true', Bool.and_eq_false_iff, decide_eq_true_eq, decide_eq_false_iff_not]; omega
  rw [e0]
  by_cases hq : (inB t.g 0 (s.gen - 1) && decide ((t.f.length : Int) ≤ 60)) = true
  · rw [hq]
    repeat (first | (with_reducible first | refine Ju.go ?_ | (refine Hd.go ?_; intro K Q hK hQ; simp only [Bool.not_true, Bool.false_eq_true, if_false]; subst hK hQ) | refine Jr.go ?_) | refine sd ?_)
    refine loop_of (fun k : Nat => k ≤ t.f.length ∧ (t.f.take k).all (okFo s) = true) (fun k => [.cptr (syV s), .cptr (teV t), I k]) (fun _ => H) (fun k => t.f.length - k) 0 ⟨Nat.zero_le _, rfl⟩ rfl rfl ?_
    intro k ⟨hk, hpk⟩
    repeat (first | (with_reducible first | refine Ju.go ?_ | (refine Hd.go ?_; intro K Q hK hQ; simp only [List.getD_cons_succ, List.getD_cons_zero, nod_cptr, e_fac, Nat.reduceAdd, lv_cons, List.length_nil, Nat.zero_add, Nat.reduceLeDiff, true_and, e_ldcV, nod_arr, nd_no, e_lenA, List.length_map, nod_imm, Try.underlying3, e_lss, e_cond, decide_eq_true_eq]; subst hK hQ) | refine Jr.go ?_) | refine sd ?_)
    by_cases hkt : k < t.f.length
    · have d2 : (k : Int) < t.f.length := by omega
      have hb2 : okFo s (t.f.getD k default) = false → t.f.all (okFo s) = false := all_bad t.f default (okFo s) hkt
      have hg2 : okFo s (t.f.getD k default) = true → (t.f.take (k + 1)).all (okFo s) = true := fun h => by rw [all_take t.f default _ hkt, hpk, h]; rfl
      have hsz := hs _ (getD_memA t.f default hkt)
      repeat (first | (with_reducible first | refine Ju.go ?_ | (refine Hd.go ?_; intro K Q hK hQ; simp only [d2, if_true, List.getD_cons_succ, List.getD_cons_zero, nod_cptr, e_fac, Nat.reduceAdd, lv_cons, List.length_nil, Nat.zero_add, Nat.reduceLeDiff, true_and, e_ldcV, nod_arr, nd_no, nod_imm, ix_fo, Int.toNat_natCast, e_ldcA, nod_agg, List.map_cons, nodL_imm, List.map_nil, e_bxI, okE_agg, all_c, ck_I, ck_str, all_n, Bool.and_self, and_true, e_ldc]; subst hK hQ) | refine Jr.go ?_) | refine sd ?_)
      generalize t.f.getD k default = f at *
      refine call_of (c70 _ _ _) ?_
      repeat (first | (with_reducible first | refine Ju.go ?_ | (refine Hd.go ?_; intro K Q hK hQ; simp only [Int.reduceNeg, nod_imm, e_not, List.getD_cons_succ, List.getD_cons_zero, nod_cptr, e_fac, Nat.reduceAdd, lv_cons, List.length_nil, Nat.zero_add, Nat.reduceLeDiff, e_ldc, true_and, e_gF]; subst hK hQ) | refine Jr.go ?_) | refine sd ?_)
      refine jo_n (c70 _ _ _) ?_
      repeat (first | (with_reducible first | refine Ju.go ?_ | (refine Hd.go ?_; intro K Q hK hQ; simp only [Int.reduceNeg, nod_imm, List.getD_cons_succ, List.getD_cons_zero, nod_cptr, e_fac, Nat.reduceAdd, lv_cons, List.length_nil, Nat.zero_add, Nat.reduceLeDiff, e_ldc, true_and, e_gF]; subst hK hQ) | refine Jr.go ?_) | refine sd ?_)
      refine jo_n (c70 _ _ _) ?_
      repeat (first | (with_reducible first | refine Ju.go ?_ | (refine Hd.go ?_; intro K Q hK hQ; simp only [Int.reduceNeg, nod_imm, List.getD_cons_succ, List.getD_cons_zero, nod_cptr, e_fac, Nat.reduceAdd, lv_cons, List.length_nil, Nat.zero_add, Nat.reduceLeDiff, e_ldc, true_and, e_gF]; subst hK hQ) | refine Jr.go ?_) | refine sd ?_)
      refine jo_n (c71 _ _ (by omega)) ?_
      have e : (!inB f.g (-1) (s.gen - 1) || !inB f.k (-1) (s.cas - 1) || !inB f.c (-1) (s.cls - 1) || !okT f.t) = !okFo s f := by unfold okFo; simp only [Bool.not_and]
      by_cases ho : okFo s f = true
      · rw [ho] at e
        repeat (first | (with_reducible first | refine Ju.go ?_ | (refine Hd.go ?_; intro K Q hK hQ; simp only [Int.reduceNeg, e, Bool.not_true, List.getD_cons_zero, List.getD_cons_succ, nod_imm, e_cond, Bool.false_eq_true, if_false, Try.underlying3, e_add]; subst hK hQ) | refine Jr.go ?_) | refine sd ?_)
        exact ⟨k + 1, ⟨by omega, hg2 ho⟩, rfl, rfl, by omega⟩
      · rw [Bool.eq_false_iff.2 ho] at e
        repeat (first | (with_reducible first | refine Ju.go ?_ | (refine Hd.go ?_; intro K Q hK hQ; simp only [Int.reduceNeg, e, Bool.not_false, List.getD_cons_zero, List.getD_cons_succ, nod_imm, e_cond, if_true]; subst hK hQ) | refine Jr.go ?_) | refine sd ?_)
        have : okTe s t = false := by unfold okTe; rw [hb2 (Bool.eq_false_iff.2 ho), Bool.and_false]
        rw [this]
        exact end1 (fzI _)
    · have d2 : ¬ (k : Int) < t.f.length := by omega
      repeat (first | (with_reducible first | refine Ju.go ?_ | (refine Hd.go ?_; intro K Q hK hQ; simp only [d2, if_false]; subst hK hQ) | refine Jr.go ?_) | refine sd ?_)
      rw [List.take_of_length_le (by omega)] at hpk
      have : okTe s t = true := by unfold okTe; rw [hq, hpk]; rfl
      rw [this]
      exact end1 (fzI _)
  · have : okTe s t = false := by unfold okTe; rw [Bool.eq_false_iff.2 hq]; rfl
    rw [this, Bool.eq_false_iff.2 hq]
    repeat (first | (with_reducible first | refine Ju.go ?_ | (refine Hd.go ?_; intro K Q hK hQ; simp only [Bool.not_false, if_true]; subst hK hQ) | refine Jr.go ?_) | refine sd ?_)
    exact end1 (fzI _)
end Go.Proofs.Ytgodfjbmblghnaa


set_option linter.unusedVariables false
set_option linter.unusedSimpArgs false
set_option linter.unnecessarySimpa false
set_option maxRecDepth 20000
set_option maxHeartbeats 2000000
namespace Go.Proofs.Ytgodfjbmblghnaa
open Go Go.Ab Go.Proofs
attribute [local congr] g_bin g_nilS g_nilP g_un g_ext g_bx g_fa g_ld g_st g_ix g_ixA g_slc g_mk g_bs g_bd g_nc g_cv g_len g_lenT g_app g_appB g_cpy g_mm g_call g_callG g_calm g_calmG g_range g_res g_pick g_cond g_loop g_Jv g_eqS g_eqP g_fd g_ixT g_ta g_lkp g_upd g_mkM g_appS g_inv g_callE g_callEG g_invE g_zr g_wr
def okPi (s : Sy) (dv : Bool) (p : Pi) : Bool :=
  !(!decide (p.k = 1) && !dv) && (if p.k = 1 ∨ p.k = 2 then inB p.t 0 (s.te.length - 1) && decide (p.s = 0) && decide (p.b = 0) else if p.k = 3 ∨ p.k = 4 then inB p.s 0 (s.se.length - 1) && decide (p.t = 0) && decide (p.b = 0) else if p.k = 5 then inB p.t 0 (s.te.length - 1) && decide (p.s = 0) && decide (0 ≤ p.b) else false)
theorem c75 (s : Sy) (dv : Bool) (p : Pi) (H : Hp) (sm : Sm s) : Ret Try.prog 75 [syV s, B dv, piV p] H (B (okPi s dv p)) H := by
  have h1 := sm.te
  have h2 := sm.se
  refine mk75 _ _ _ rfl (Nat.le_refl _) (.inl rfl) ?_
  simp only [vc75, real]
  repeat (first | (with_reducible first | refine Ju.go ?_ | (refine Hd.go ?_; intro K Q hK hQ; simp only [nod_agg, List.map_cons, nodL_imm, nodL_arr, nd_no, List.map_nil, e_bxI, okE_agg, lv_cons, List.length_nil, Nat.zero_add, Nat.reduceAdd, all_c, ck_I, ck_arr, all_n, Bool.and_self, and_true, true_and, nod_cptr, e_fac, Nat.reduceLeDiff, List.getD_cons_succ, List.getD_cons_zero, e_ldc, e_ldcV, nod_arr, e_lenA, List.length_map, nod_imm, Try.underlying3, e_sub]; subst hK hQ) | refine Jr.go ?_) | refine sd ?_)
  refine calm_of (fun H => c45 _ _ _ H) ?_
  repeat (first | (with_reducible first | refine Ju.go ?_ | (refine Hd.go ?_; intro K Q hK hQ; simp only [nod_cptr, e_fac, Nat.reduceAdd, lv_cons, List.length_nil, Nat.zero_add, Nat.reduceLeDiff, List.getD_cons_succ, List.getD_cons_zero, true_and, e_ldc, e_ldcV, nod_arr, nd_no, e_lenA, List.length_map, nod_imm, Try.underlying3, e_sub]; subst hK hQ) | refine Jr.go ?_) | refine sd ?_)
  refine call_ofD (c45 _ _ _ _) ?_
  repeat (first | (with_reducible first | refine Ju.go ?_ | (refine Hd.go ?_; intro K Q hK hQ; simp only [List.getD_cons_succ, List.getD_cons_zero, nod_cptr, e_fac, Nat.zero_add, lv_cons, List.length_nil, Nat.reduceAdd, Nat.reduceLeDiff, true_and, e_ldc, nod_imm, Try.underlying57, e_neq, e_not, e_gT, j_and', j_one, e_cond]; subst hK hQ) | refine Jr.go ?_) | refine sd ?_)
  unfold okPi
  by_cases h0 : (!decide (p.k = 1) && !dv) = true
  · repeat (first | (with_reducible first | refine Ju.go ?_ | (refine Hd.go ?_; intro K Q hK hQ; simp only [h0, if_true]; subst hK hQ) | refine Jr.go ?_) | refine sd ?_)
    rw [h0]
    exact end1 (fzI _)
  · rw [Bool.eq_false_iff.2 h0]
    repeat (first | (with_reducible first | refine Ju.go ?_ | (refine Hd.go ?_; intro K Q hK hQ; simp only [Bool.false_eq_true, if_false, List.getD_cons_zero, nod_cptr, e_fac, Nat.zero_add, lv_cons, List.length_nil, Nat.reduceAdd, Nat.reduceLeDiff, true_and, e_ldc, nod_imm, Try.underlying57, e_eql, e_cond, decide_eq_true_eq]; subst hK hQ) | refine Jr.go ?_) | refine sd ?_)
    generalize inB p.t 0 (s.te.length - 1) = tt at *
    generalize inB p.s 0 (s.se.length - 1) = ss at *
    by_cases k1 : p.k = 1
    · repeat (first | (with_reducible first | refine Ju.go ?_ | (refine Hd.go ?_; intro K Q hK hQ; simp only [k1, if_true, List.getD_cons_zero, List.getD_cons_succ, decide_true, nod_imm, e_cond, nod_cptr, Try.underlying3, e_fac, Nat.reduceAdd, lv_cons, List.length_nil, Nat.zero_add, Nat.reduceLeDiff, e_ldc, e_eql, true_and, e_gT, j_and', j_one]; subst hK hQ) | refine Jr.go ?_) | refine sd ?_)
      rw [if_pos (.inl k1)]
      exact end1 (fzI _)
    · repeat (first | (with_reducible first | refine Ju.go ?_ | (refine Hd.go ?_; intro K Q hK hQ; simp only [k1, if_false, nod_imm, Try.underlying57, e_eql, List.getD_cons_zero, List.getD_cons_succ, e_cond, decide_eq_true_eq]; subst hK hQ) | refine Jr.go ?_) | refine sd ?_)
      by_cases k2 : p.k = 2
      · repeat (first | (with_reducible first | refine Ju.go ?_ | (refine Hd.go ?_; intro K Q hK hQ; simp only [k2, if_true, decide_true, List.getD_cons_succ, List.getD_cons_zero, nod_imm, nod_cptr, Try.underlying3, e_fac, Nat.reduceAdd, lv_cons, List.length_nil, Nat.zero_add, Nat.reduceLeDiff, e_ldc, e_eql, true_and, e_gT, j_and', j_one]; subst hK hQ) | refine Jr.go ?_) | refine sd ?_)
        rw [if_pos (.inr k2)]
        exact end1 (fzI _)
      · repeat (first | (with_reducible first | refine Ju.go ?_ | (refine Hd.go ?_; intro K Q hK hQ; simp only [k2, if_false, decide_false, List.getD_cons_succ, List.getD_cons_zero, nod_imm, Try.underlying57, e_eql, e_cond, decide_eq_true_eq]; subst hK hQ) | refine Jr.go ?_) | refine sd ?_)
        rw [if_neg (show ¬ (p.k = 1 ∨ p.k = 2) by omega)]
        by_cases k3 : p.k = 3
        · repeat (first | (with_reducible first | refine Ju.go ?_ | (refine Hd.go ?_; intro K Q hK hQ; simp only [k3, if_true, Int.reduceEq, decide_false, List.getD_cons_zero, List.getD_cons_succ, decide_true, nod_imm, e_cond, nod_cptr, Try.underlying3, e_fac, Nat.reduceAdd, lv_cons, List.length_nil, Nat.zero_add, Nat.reduceLeDiff, e_ldc, e_eql, true_and, e_gT, j_and', j_one]; subst hK hQ) | refine Jr.go ?_) | refine sd ?_)
          rw [if_pos (.inl k3)]
          exact end1 (fzI _)
        · repeat (first | (with_reducible first | refine Ju.go ?_ | (refine Hd.go ?_; intro K Q hK hQ; simp only [k3, if_false, List.getD_cons_succ, List.getD_cons_zero, nod_imm, Try.underlying57, e_eql, e_cond, decide_eq_true_eq]; subst hK hQ) | refine Jr.go ?_) | refine sd ?_)
          by_cases k4 : p.k = 4
          · repeat (first | (with_reducible first | refine Ju.go ?_ | (refine Hd.go ?_; intro K Q hK hQ; simp only [k4, if_true, decide_true, List.getD_cons_succ, List.getD_cons_zero, nod_imm, nod_cptr, Try.underlying3, e_fac, Nat.reduceAdd, lv_cons, List.length_nil, Nat.zero_add, Nat.reduceLeDiff, e_ldc, e_eql, true_and, e_gT, j_and', j_one]; subst hK hQ) | refine Jr.go ?_) | refine sd ?_)
            rw [if_pos (.inr k4)]
            exact end1 (fzI _)
          · repeat (first | (with_reducible first | refine Ju.go ?_ | (refine Hd.go ?_; intro K Q hK hQ; simp only [k4, if_false, decide_false, List.getD_cons_succ, List.getD_cons_zero, nod_imm, Try.underlying57, e_eql, e_cond, decide_eq_true_eq]; subst hK hQ) | refine Jr.go ?_) | refine sd ?_)
            rw [if_neg (show ¬ (p.k = 3 ∨ p.k = 4) by omega)]
            by_cases k5 : p.k = 5
            · repeat (first | (with_reducible first | refine Ju.go ?_ | (refine Hd.go ?_; intro K Q hK hQ; simp only [k5, if_true, Int.reduceEq, decide_false, List.getD_cons_succ, List.getD_cons_zero, nod_imm, nod_cptr, Try.underlying3, e_fac, Nat.reduceAdd, lv_cons, List.length_nil, Nat.zero_add, Nat.reduceLeDiff, e_ldc, e_eql, true_and, e_gT, j_and', j_one, e_geq]; subst hK hQ) | refine Jr.go ?_) | refine sd ?_)
              rw [if_pos k5]
              exact end1 (fzI _)
            · repeat (first | (with_reducible first | refine Ju.go ?_ | (refine Hd.go ?_; intro K Q hK hQ; simp only [k5, if_false]; subst hK hQ) | refine Jr.go ?_) | refine sd ?_)
              rw [if_neg k5]
              exact end1 (fzI _)
theorem okPi_ref (s : Sy) (d : Int) (p : Pi) (hk : 1 ≤ p.k ∧ p.k ≤ 5) (hd : p.k ≠ 1 → d ≠ 0) : okPi s (!decide (d = 0)) p =
    (!((decide (p.k = 1) || decide (p.k = 2) || decide (p.k = 5)) && (decide (p.t < 0) || (decide ((s.te.length : Int) ≤ p.t) || !decide (p.s = 0))) || !(decide (p.k = 1) || decide (p.k = 2) || decide (p.k = 5)) && (!decide (p.t = 0) || (decide (p.s < 0) || decide ((s.se.length : Int) ≤ p.s)))) && (decide (0 ≤ p.b) && (decide (p.k = 5) || decide (p.b = 0)))) := by
  unfold okPi
  have e0 : (!(!decide (p.k = 1) && !!decide (d = 0))) = true := by
    rw [Bool.not_eq_true', Bool.and_eq_false_iff]
    by_cases h : p.k = 1
    · exact .inl (by rw [decide_eq_true h]; rfl)
    · exact .inr (by rw [decide_eq_false (hd h)]; rfl)
  rw [e0, Bool.true_and]
  rw [Bool.eq_iff_iff]
  by_cases k1 : p.k = 1 ∨ p.k = 2
  · rw [if_pos k1]
    simp only [inB, Bool.or_eq_true, Bool.and_eq_true, Bool.not_eq_true', Bool.or_eq_false_iff, Bool.and_eq_false_iff, Bool.not_eq_false', decide_eq_true_eq, decide_eq_false_iff_not]
    omega
  · rw [if_neg k1]
    by_cases k3 : p.k = 3 ∨ p.k = 4
    · rw [if_pos k3]
      simp only [inB, Bool.or_eq_true, Bool.and_eq_true, Bool.not_eq_true', Bool.or_eq_false_iff, Bool.and_eq_false_iff, Bool.not_eq_false', decide_eq_true_eq, decide_eq_false_iff_not]
      omega
    · rw [if_neg k3, if_pos (show p.k = 5 by omega)]
      simp only [inB, Bool.or_eq_true, Bool.and_eq_true, Bool.not_eq_true', Bool.or_eq_false_iff, Bool.and_eq_false_iff, Bool.not_eq_false', decide_eq_true_eq, decide_eq_false_iff_not]
      omega
theorem c72 (s : Sy) (d : Int) (p : Pi) (H : Hp) (sm : Sm s) : Ret Try.prog 72 [syV s, piV p, I d] H (B (okPi s (!decide (d = 0)) p)) H := by
  have h1 := sm.te
  have h2 := sm.se
  refine mk72 _ _ _ rfl (Nat.le_refl _) (.inl rfl) ?_
  simp only [vc72, real]
  repeat (first | (with_reducible first | refine Ju.go ?_ | (refine Hd.go ?_; intro K Q hK hQ; simp only [nod_agg, List.map_cons, nodL_imm, nodL_arr, nd_no, List.map_nil, e_bxI, okE_agg, lv_cons, List.length_nil, Nat.zero_add, Nat.reduceAdd, all_c, ck_I, ck_arr, all_n, Bool.and_self, and_true, true_and, nod_cptr, e_fac, Nat.reduceLeDiff, List.getD_cons_zero, e_ldc, nod_imm, Try.underlying57, e_lss, e_gtr, e_gF, j_or', j_one, Try.underlying3, nod_nod, e_eql, e_neq, e_gT, j_and', List.getD_cons_succ, e_cond]; subst hK hQ) | refine Jr.go ?_) | refine sd ?_)
  by_cases h0 : (decide (p.k < 1) || decide (5 < p.k) || !decide (p.k = 1) && decide (d = 0)) = true
  · have e : okPi s (!decide (d = 0)) p = false := by
      unfold okPi
      simp only [Bool.or_eq_true, Bool.and_eq_true, Bool.not_eq_true', decide_eq_true_eq, decide_eq_false_iff_not] at h0
      rcases h0 with (h | h) | h
      · rw [if_neg (by omega), if_neg (by omega), if_neg (by omega), Bool.and_false]
      · rw [if_neg (by omega), if_neg (by omega), if_neg (by omega), Bool.and_false]
      · rw [decide_eq_false h.1, decide_eq_true h.2]; rfl
    repeat (first | (with_reducible first | refine Ju.go ?_ | (refine Hd.go ?_; intro K Q hK hQ; simp only [h0, if_true]; subst hK hQ) | refine Jr.go ?_) | refine sd ?_)
    rw [e]
    exact end1 (fzI _)
  · repeat (first | (with_reducible first | refine Ju.go ?_ | (refine Hd.go ?_; intro K Q hK hQ; simp only [h0, Bool.false_eq_true, if_false, List.getD_cons_succ, List.getD_cons_zero, nod_cptr, e_fac, Nat.zero_add, lv_cons, List.length_nil, Nat.reduceAdd, Nat.reduceLeDiff, true_and, e_ldc, nod_imm, Try.underlying57, e_eql, e_gF, j_or', j_one, Try.underlying3, nod_nod, e_neq, e_ldcV, nod_arr, nd_no, e_lenA, List.length_map, e_geq, e_lss, e_gT, j_and', e_not, e_cond]; subst hK hQ) | refine Jr.go ?_) | refine sd ?_)
    simp only [Bool.or_eq_true, Bool.and_eq_true, Bool.not_eq_true', decide_eq_true_eq, decide_eq_false_iff_not, not_or] at h0
    rw [okPi_ref s d p (by omega) (by omega)]
    generalize ((decide (p.k = 1) || decide (p.k = 2) || decide (p.k = 5)) && (decide (p.t < 0) || (decide ((s.te.length : Int) ≤ p.t) || !decide (p.s = 0))) || !(decide (p.k = 1) || decide (p.k = 2) || decide (p.k = 5)) && (!decide (p.t = 0) || (decide (p.s < 0) || decide ((s.se.length : Int) ≤ p.s)))) = c1
    cases c1
    · repeat (first | (with_reducible first | refine Ju.go ?_ | (refine Hd.go ?_; intro K Q hK hQ; simp only [Bool.false_eq_true, if_false, List.getD_cons_zero, nod_cptr, e_fac, Nat.reduceAdd, lv_cons, List.length_nil, Nat.zero_add, Nat.reduceLeDiff, List.getD_cons_succ, true_and, e_ldc, nod_imm, Try.underlying3, e_geq, Try.underlying57, nod_nod, e_eql, e_gF, j_or', e_gT, j_and', j_one]; subst hK hQ) | refine Jr.go ?_) | refine sd ?_)
      exact end1 (fzI _)
    · repeat (first | (with_reducible first | refine Ju.go ?_ | (refine Hd.go ?_; intro K Q hK hQ; simp only [if_true]; subst hK hQ) | refine Jr.go ?_) | refine sd ?_)
      exact end1 (fzI _)
def isSp (p : Pi) : Bool := decide (p.k = 1) || decide (p.k = 2) || decide (p.k = 3)
def cntK (k : Int) (l : List Pi) : Int := (l.countP fun p => decide (p.k = k) : Nat)
theorem cntK_snoc (k : Int) (l : List Pi) (p : Pi) : cntK k (l ++ [p]) = cntK k l + (if p.k = k then 1 else 0) := by
  unfold cntK
  rw [List.countP_append, List.countP_singleton]
  by_cases h : p.k = k <;> simp [h]
theorem cntK_bd (k : Int) (l : List Pi) : 0 ≤ cntK k l ∧ cntK k l ≤ l.length := by
  unfold cntK
  have := List.countP_le_length (p := fun p : Pi => decide (p.k = k)) (l := l)
  omega
theorem any_snoc {α : Type} (l : List α) (x : α) (p : α → Bool) : (l ++ [x]).any p = (l.any p || p x) := by rw [List.any_append]; simp
def okR (s : Sy) (r : Nu) : Bool := !(!decide (r.d = 0) && !inB r.d 2 r.b) && inB r.p.length 1 10 && r.p.all (okPi s (!decide (r.d = 0))) && r.p.any isSp && decide (cntK 3 r.p ≤ 1) && decide (cntK 4 r.p ≤ 1)
theorem c44 (s : Sy) (r : Nu) (H : Hp) (sm : Sm s) (hb : 0 ≤ r.b) : Ret Try.prog 44 [syV s, nuV r] H (B (okR s r)) H := by
  refine mk44 _ _ rfl (Nat.le_refl _) (.inl rfl) ?_
  simp only [vc44, real]
  repeat (first | (with_reducible first | refine Ju.go ?_ | (refine Hd.go ?_; intro K Q hK hQ; simp only [nod_agg, List.map_cons, nodL_imm, nodL_arr, nd_no, List.map_nil, e_bxI, okE_agg, lv_cons, List.length_nil, Nat.zero_add, Nat.reduceAdd, all_c, ck_I, ck_arr, all_n, Bool.and_self, and_true, true_and, nod_cptr, e_fac, Nat.reduceLeDiff, List.getD_cons_succ, List.getD_cons_zero, e_ldc, nod_imm, Try.underlying3, e_lss, e_eql, e_gF, j_or', j_one, e_gtr, e_ldcV, nod_arr, e_lenA, List.length_map, e_cond]; subst hK hQ) | refine Jr.go ?_) | refine sd ?_)
  have e0 : (decide (r.d < 0) || decide (r.d = 1) || decide (r.b < r.d) || decide ((r.p.length : Int) < 1) || decide (10 < (r.p.length : Int))) = !(!(!decide (r.d = 0) && !inB r.d 2 r.b) && inB r.p.length 1 10) := by
    rw [Bool.eq_iff_iff]
    simp only [inB, Bool.or_eq_true, Bool.and_eq_true, Bool.not_eq_true', Bool.or_eq_false_iff, Bool.and_eq_false_iff, Bool.not_eq_false', decide_eq_true_eq, decide_eq_false_iff_not]
    omega
  rw [e0]
  by_cases hq : (!(!decide (r.d = 0) && !inB r.d 2 r.b) && inB r.p.length 1 10) = true
  · rw [hq]
    have hlen : r.p.length ≤ 10 := by
      rw [Bool.and_eq_true, inB_iff] at hq; omega
    repeat (first | (with_reducible first | refine Ju.go ?_ | (refine Hd.go ?_; intro K Q hK hQ; simp only [Bool.not_true, Bool.false_eq_true, if_false]; subst hK hQ) | refine Jr.go ?_) | refine sd ?_)
    refine loop_of (fun k : Nat => k ≤ r.p.length ∧ (r.p.take k).all (okPi s (!decide (r.d = 0))) = true) (fun k => [.cptr (syV s), .cptr (nuV r), B ((r.p.take k).any isSp), I (cntK 3 (r.p.take k)), I (cntK 4 (r.p.take k)), I k]) (fun _ => H) (fun k => r.p.length - k) 0 ⟨Nat.zero_le _, rfl⟩ rfl rfl ?_
    intro k ⟨hk, hpk⟩
    have b3 := cntK_bd 3 (r.p.take k)
    have b4 := cntK_bd 4 (r.p.take k)
    have bl : (r.p.take k).length ≤ 10 := by rw [List.length_take]; omega
    repeat (first | (with_reducible first | refine Ju.go ?_ | (refine Hd.go ?_; intro K Q hK hQ; simp only [List.getD_cons_succ, List.getD_cons_zero, nod_cptr, e_fac, Nat.reduceAdd, lv_cons, List.length_nil, Nat.zero_add, Nat.reduceLeDiff, true_and, e_ldcV, nod_arr, nd_no, e_lenA, List.length_map, nod_imm, Try.underlying3, e_lss, e_cond, decide_eq_true_eq]; subst hK hQ) | refine Jr.go ?_) | refine sd ?_)
    by_cases hkt : k < r.p.length
    · have d2 : (k : Int) < r.p.length := by omega
      have hb2 : okPi s (!decide (r.d = 0)) (r.p.getD k default) = false → r.p.all (okPi s (!decide (r.d = 0))) = false := all_bad r.p default _ hkt
      have hg2 : okPi s (!decide (r.d = 0)) (r.p.getD k default) = true → (r.p.take (k + 1)).all (okPi s (!decide (r.d = 0))) = true := fun h => by rw [all_take r.p default _ hkt, hpk, h]; rfl
      have tk := take_snocA r.p default hkt
      repeat (first | (with_reducible first | refine Ju.go ?_ | (refine Hd.go ?_; intro K Q hK hQ; simp only [d2, if_true, List.getD_cons_succ, List.getD_cons_zero, nod_cptr, e_fac, Nat.reduceAdd, lv_cons, List.length_nil, Nat.zero_add, Nat.reduceLeDiff, true_and, e_ldcV, nod_arr, nd_no, nod_imm, ix_pi, Int.toNat_natCast, e_ldcA, nod_agg, List.map_cons, nodL_imm, List.map_nil, e_bxI, okE_agg, all_c, ck_I, all_n, Bool.and_self, and_true, e_ldc, nodL_arr]; subst hK hQ) | refine Jr.go ?_) | refine sd ?_)
      generalize r.p.getD k default = p at *
      refine call_of (c72 s r.d p _ sm) ?_
      by_cases ho : okPi s (!decide (r.d = 0)) p = true
      · rw [ho]
        have a1 : (r.p.take (k + 1)).any isSp = (((r.p.take k).any isSp || decide (p.k = 1)) || decide (p.k = 2) || decide (p.k = 3)) := by rw [tk, any_snoc]; unfold isSp; simp only [Bool.or_assoc]
        have a3 : cntK 3 (r.p.take (k + 1)) = cntK 3 (r.p.take k) + (if p.k = 3 then 1 else 0) := by rw [tk, cntK_snoc]
        have a4 : cntK 4 (r.p.take (k + 1)) = cntK 4 (r.p.take k) + (if p.k = 4 then 1 else 0) := by rw [tk, cntK_snoc]
        repeat (first | (with_reducible first | refine Ju.go ?_ | (refine Hd.go ?_; intro K Q hK hQ; simp only [nod_imm, e_not, Bool.not_true, e_cond, Bool.false_eq_true, if_false, List.getD_cons_succ, List.getD_cons_zero, nod_cptr, e_fac, Nat.zero_add, lv_cons, List.length_nil, Nat.reduceAdd, Nat.reduceLeDiff, true_and, e_ldc, Try.underlying57, e_eql, decide_eq_true_eq]; subst hK hQ) | refine Jr.go ?_) | refine sd ?_)
        by_cases k3 : p.k = 3
        · have k4 : ¬ p.k = 4 := by omega
          rw [if_pos k3] at a3
          rw [if_neg k4, Int.add_zero] at a4
          rw [decide_eq_true k3, Bool.or_true] at a1
          repeat (first | (with_reducible first | refine Ju.go ?_ | (refine Hd.go ?_; intro K Q hK hQ; simp only [k3, if_true, List.getD_cons_succ, List.getD_cons_zero, nod_imm, Try.underlying3, e_add, nod_cptr, e_fac, Nat.zero_add, lv_cons, List.length_nil, Nat.reduceAdd, Nat.reduceLeDiff, true_and, e_ldc, Try.underlying57, e_eql, Int.reduceEq, decide_false, e_cond, Bool.false_eq_true, if_false, e_gF, j_and', Bool.and_true, j_one, decide_true, j_or', Bool.or_true]; subst hK hQ) | refine Jr.go ?_) | refine sd ?_)
          exact ⟨k + 1, ⟨by omega, hg2 ho⟩, by rw [a1, a3, a4]; rfl, rfl, by omega⟩
        · rw [if_neg k3, Int.add_zero] at a3
          repeat (first | (with_reducible first | refine Ju.go ?_ | (refine Hd.go ?_; intro K Q hK hQ; simp only [k3, if_false, List.getD_cons_zero, List.getD_cons_succ, nod_cptr, e_fac, Nat.zero_add, lv_cons, List.length_nil, Nat.reduceAdd, Nat.reduceLeDiff, true_and, e_ldc, nod_imm, Try.underlying57, e_eql, e_cond, decide_eq_true_eq]; subst hK hQ) | refine Jr.go ?_) | refine sd ?_)
          by_cases k4 : p.k = 4
          · rw [if_pos k4] at a4
            rw [decide_eq_false (show ¬ p.k = 1 by omega), decide_eq_false (show ¬ p.k = 2 by omega), decide_eq_false k3, Bool.or_false, Bool.or_false, Bool.or_false] at a1
            repeat (first | (with_reducible first | refine Ju.go ?_ | (refine Hd.go ?_; intro K Q hK hQ; simp only [k4, if_true, List.getD_cons_succ, List.getD_cons_zero, nod_imm, Try.underlying3, e_add, nod_cptr, Try.underlying57, e_fac, Nat.zero_add, lv_cons, List.length_nil, Nat.reduceAdd, Nat.reduceLeDiff, e_ldc, e_eql, Int.reduceEq, decide_false, true_and, e_gF, j_and', Bool.and_true, j_one]; subst hK hQ) | refine Jr.go ?_) | refine sd ?_)
            exact ⟨k + 1, ⟨by omega, hg2 ho⟩, by rw [a1, a3, a4]; rfl, rfl, by omega⟩
          · rw [if_neg k4, Int.add_zero] at a4
            repeat (first | (with_reducible first | refine Ju.go ?_ | (refine Hd.go ?_; intro K Q hK hQ; simp only [k4, if_false, List.getD_cons_zero, List.getD_cons_succ, nod_imm, nod_cptr, Try.underlying57, e_fac, Nat.zero_add, lv_cons, List.length_nil, Nat.reduceAdd, Nat.reduceLeDiff, e_ldc, e_eql, true_and, e_gF, j_or', j_one, Try.underlying3, e_add]; subst hK hQ) | refine Jr.go ?_) | refine sd ?_)
            exact ⟨k + 1, ⟨by omega, hg2 ho⟩, by rw [a1, a3, a4]; rfl, rfl, by omega⟩
      · rw [Bool.eq_false_iff.2 ho]
        repeat (first | (with_reducible first | refine Ju.go ?_ | (refine Hd.go ?_; intro K Q hK hQ; simp only [nod_imm, e_not, Bool.not_false, e_cond, if_true]; subst hK hQ) | refine Jr.go ?_) | refine sd ?_)
        have : okR s r = false := by unfold okR; rw [hq, hb2 (Bool.eq_false_iff.2 ho)]; rfl
        rw [this]
        exact end1 (fzI _)
    · have d2 : ¬ (k : Int) < r.p.length := by omega
      repeat (first | (with_reducible first | refine Ju.go ?_ | (refine Hd.go ?_; intro K Q hK hQ; simp only [d2, if_false, List.getD_cons_succ, List.getD_cons_zero, nod_imm, Try.underlying3, e_lss, e_gT, j_and', j_one]; subst hK hQ) | refine Jr.go ?_) | refine sd ?_)
      rw [List.take_of_length_le (show r.p.length ≤ k by omega)] at hpk ⊢
      have : okR s r = (r.p.any isSp && decide (cntK 3 r.p < 2) && decide (cntK 4 r.p < 2)) := by
        unfold okR
        rw [hq, hpk, Bool.true_and, Bool.true_and]
        congr 1
        · congr 1
          rw [decide_eq_decide]; omega
        · rw [decide_eq_decide]; omega
      rw [this]
      exact end1 (fzI _)
  · have : okR s r = false := by unfold okR; rw [Bool.eq_false_iff.2 hq]; rfl
    rw [this, Bool.eq_false_iff.2 hq]
    repeat (first | (with_reducible first | refine Ju.go ?_ | (refine Hd.go ?_; intro K Q hK hQ; simp only [Bool.not_false, if_true]; subst hK hQ) | refine Jr.go ?_) | refine sd ?_)
    exact end1 (fzI _)
end Go.Proofs.Ytgodfjbmblghnaa


set_option linter.unusedVariables false
set_option linter.unusedSimpArgs false
set_option linter.unnecessarySimpa false
set_option maxRecDepth 20000
set_option maxHeartbeats 2000000
namespace Go.Proofs.Ytgodfjbmblghnaa
open Go Go.Ab Go.Proofs
attribute [local congr] g_bin g_nilS g_nilP g_un g_ext g_bx g_fa g_ld g_st g_ix g_ixA g_slc g_mk g_bs g_bd g_nc g_cv g_len g_lenT g_app g_appB g_cpy g_mm g_call g_callG g_calm g_calmG g_range g_res g_pick g_cond g_loop g_Jv g_eqS g_eqP g_fd g_ixT g_ta g_lkp g_upd g_mkM g_appS g_inv g_callE g_callEG g_invE g_zr g_wr
def okRi (s : Sy) (l : List Nu) (i : Nat) : Bool := (decide (i = 0) || decide ((l.getD (i - 1) default).b < (l.getD i default).b)) && okR s (l.getD i default)
def okSe (s : Sy) (l : List Nu) : Bool := inB l.length 1 200 && decide ((l.getD 0 default).b = 0) && decide ((l.getD (l.length - 1) default).b ≤ s.top) && (List.range l.length).all (okRi s l)
def nuB (l : List Nu) : Hp := l.map fun r => .cells [I r.b, I r.d, .arr (r.p.map piV) .no]
theorem end1Y {H Y : Hp} {x : Value} : retF (.imm x) H [.imm x] (H ++ Y) := ⟨fzI x, by simp⟩
theorem range_bad {l n : Nat} {f : Nat → Bool} (h : l < n) (hf : f l = false) : (List.range n).all f = false := by
  rw [List.all_eq_false]; exact ⟨l, List.mem_range.2 h, by rw [hf]; decide⟩
theorem range_succ_all {f : Nat → Bool} (n : Nat) : (List.range (n + 1)).all f = ((List.range n).all f && f n) := by rw [List.range_succ, List.all_append]; simp
theorem c50 (s : Sy) (l : List Nu) (H : Hp) (sm : Sm s) (hl : l.length ≤ 9223372036854775807) (hp : ∀ r, r ∈ l → r.p.length ≤ 9223372036854775807) : Ret Try.prog 50 [syV s, seV l] H (B (okSe s l)) H := by
  refine mk50 _ _ rfl (Nat.le_refl _) (.inl rfl) ?_
  simp only [vc50, real]
  repeat (first | (with_reducible first | refine Ju.go ?_ | (refine Hd.go ?_; intro K Q hK hQ; simp only [nod_agg, List.map_cons, nodL_imm, nodL_arr, nd_no, List.map_nil, e_bxI, okE_agg, lv_cons, List.length_nil, Nat.zero_add, Nat.reduceAdd, all_c, ck_I, ck_arr, all_n, Bool.and_self, and_true, true_and, nod_arr, e_lenA, List.length_map, nod_imm]; subst hK hQ) | refine Jr.go ?_) | refine sd ?_)
  refine call_ofD (c45 _ _ _ _) ?_
  repeat (first | (with_reducible first | refine Ju.go ?_ | (refine Hd.go ?_; intro K Q hK hQ; simp only [nod_imm, e_not, nod_arr, nd_no, Try.underlying3, ix_nu, nod_cptr, e_fac, Nat.zero_add, lv_cons, List.length_nil, Nat.reduceAdd, Nat.reduceLeDiff, List.getD_cons_zero, e_ldc, e_neq, true_and, e_gF, j_fl, j_or', j_side, j_one]; subst hK hQ) | refine Jr.go ?_) | refine sd ?_)
  by_cases hin : inB l.length 1 200 = true
  · have hin' := inB_iff.1 hin
    rw [hin]
    refine ⟨fun _ => by omega, ?_⟩
    repeat (first | (with_reducible first | refine Ju.go ?_ | (refine Hd.go ?_; intro K Q hK hQ; simp only [Bool.not_true, Bool.false_or, nod_imm, nod_arr, nd_no, Try.underlying3, nod_cptr, e_fac, Nat.zero_add, lv_cons, List.length_nil, Nat.reduceAdd, Nat.reduceLeDiff, List.getD_cons_zero, e_ldc, true_and, e_lenA, List.length_map, e_sub, ix_nu, e_gtr, e_gF, j_fl, j_or', j_side, j_one, List.getD_cons_succ, e_cond]; subst hK hQ) | refine Jr.go ?_) | refine sd ?_)
    have eL : ((l.length : Int) - 1).toNat = l.length - 1 := by omega
    repeat (first | (with_reducible first | refine Ju.go ?_ | (refine Hd.go ?_; intro K Q hK hQ; simp only [eL]; subst hK hQ) | refine Jr.go ?_) | refine sd ?_)
    by_cases h0 : (!decide ((l.getD (Int.toNat 0) default).b = 0) || decide (s.top < (l.getD (l.length - 1) default).b)) = true
    · have : okSe s l = false := by
        unfold okSe
        rw [Bool.or_eq_true, Bool.not_eq_true', decide_eq_false_iff_not, decide_eq_true_eq, show Int.toNat 0 = 0 from rfl] at h0
        rcases h0 with h | h
        · rw [decide_eq_false h, Bool.and_false]; rfl
        · rw [decide_eq_false (show ¬ (l.getD (l.length - 1) default).b ≤ s.top by omega), Bool.and_false]; rfl
      repeat (first | (with_reducible first | refine Ju.go ?_ | (refine Hd.go ?_; intro K Q hK hQ; simp only [h0, if_true]; subst hK hQ) | refine Jr.go ?_) | refine sd ?_)
      rw [this]
      exact end1 (fzI _)
    · repeat (first | (with_reducible first | refine Ju.go ?_ | (refine Hd.go ?_; intro K Q hK hQ; simp only [h0, Bool.false_eq_true, if_false, List.getD_cons_zero, nod_arr, nd_no, e_lenA, List.length_map]; subst hK hQ) | refine Jr.go ?_) | refine sd ?_)
      have hA : (inB l.length 1 200 && decide ((l.getD 0 default).b = 0) && decide ((l.getD (l.length - 1) default).b ≤ s.top)) = true := by
        rw [Bool.or_eq_true, Bool.not_eq_true', decide_eq_false_iff_not, decide_eq_true_eq, not_or, Decidable.not_not, show Int.toNat 0 = 0 from rfl] at h0
        rw [hin, decide_eq_true h0.1, decide_eq_true (show (l.getD (l.length - 1) default).b ≤ s.top by omega)]; rfl
      have hbad : ∀ i, i < l.length → okRi s l i = false → okSe s l = false := fun i hi h => by unfold okSe; rw [range_bad hi h, Bool.and_false]
      refine loop_of (fun i : Nat => i ≤ l.length ∧ (List.range i).all (okRi s l) = true) (fun i => [seV l, .cptr (syV s), seV l, I l.length, I i]) (fun i => H ++ nuB (l.take i)) (fun i => l.length - i) 0 ⟨Nat.zero_le _, rfl⟩ rfl (by simp [nuB]) ?_
      intro i ⟨hi, hr⟩
      have hX0 : ∃ Y, H ++ nuB (l.take i) = H ++ Y := ⟨_, rfl⟩
      have hXn : i < l.length → H ++ nuB (l.take (i + 1)) = H ++ nuB (l.take i) ++ [.cells [I (l.getD i default).b, I (l.getD i default).d, .arr ((l.getD i default).p.map piV) .no]] := fun h => by
        rw [take_snocA l default h]; unfold nuB; rw [List.map_append, List.append_assoc]; rfl
      generalize H ++ nuB (l.take i) = X at *
      repeat (first | (with_reducible first | refine Ju.go ?_ | (refine Hd.go ?_; intro K Q hK hQ; simp only [List.getD_cons_succ, List.getD_cons_zero, nod_imm, Try.underlying3, e_lss, e_cond, decide_eq_true_eq]; subst hK hQ) | refine Jr.go ?_) | refine sd ?_)
      by_cases hlt : i < l.length
      · have d : (i : Int) < l.length := by omega
        have eI : ((i : Int) - 1).toNat = i - 1 := by omega
        have hpl := hp _ (getD_memA l default hlt)
        have hXn := hXn hlt
        have hb1 := hbad i hlt
        have hg1 : okRi s l i = true → (List.range (i + 1)).all (okRi s l) = true := fun h => by rw [range_succ_all, hr, h]; rfl
        have eO : okRi s l i = ((decide (i = 0) || decide ((l.getD (i - 1) default).b < (l.getD i default).b)) && okR s (l.getD i default)) := rfl
        repeat (first | (with_reducible first | refine Ju.go ?_ | (refine Hd.go ?_; intro K Q hK hQ; simp only [d, if_true, List.getD_cons_succ, List.getD_cons_zero, nod_arr, nd_no, nod_imm, ix_nu, Int.toNat_natCast, true_and, nod_cptr, e_ldcA, lv_cons, List.length_nil, Nat.zero_add, Nat.reduceAdd, e_bx, okE_agg, all_c, ck_I, ck_arr, all_n, Bool.and_self, and_true, cl_agg, nod_ptr, e_sc0, Nat.reduceLeDiff, stV_agg, List.map_cons, nodL_imm, nodL_arr, List.map_nil, spl_0, spl_n, Try.underlying3, e_gtr, e_sub, eI, e_fac, e_ldc, e_fa, Nat.add_zero, e_lc0, e_leq, e_gT, j_tl, decide_eq_true_eq, j_and', j_side, j_one, nod_nod, e_neq, e_gF]; subst hK hQ) | refine Jr.go ?_) | refine sd ?_)
        generalize l.getD i default = r at *
        generalize (l.getD (i - 1) default).b = pb at *
        have eC : (decide (0 < (i : Int)) && decide (r.b ≤ pb)) = !(decide (i = 0) || decide (pb < r.b)) := by
          rw [Bool.eq_iff_iff]
          simp only [Bool.and_eq_true, Bool.not_eq_true', Bool.or_eq_false_iff, decide_eq_true_eq, decide_eq_false_iff_not]; omega
        rw [eC]
        generalize (decide (i = 0) || decide (pb < r.b)) = c1 at *
        generalize hRR : Rv _ = R
        have key : R (B (!c1 || (!decide (r.d = 0) && !inB r.d 2 r.b))) (X ++ [.cells [I r.b, I r.d, .arr (r.p.map piV) .no]]) := by
          rw [← hRR]
          refine rv_go ?_
          generalize hc2 : (!c1 || (!decide (r.d = 0) && !inB r.d 2 r.b)) = c2
          repeat (first | (with_reducible first | refine Ju.go ?_ | (refine Hd.go ?_; intro K Q hK hQ; simp only [nod_imm, nod_ptr, e_fa, Nat.zero_add, e_lc0, Nat.reduceAdd, lv_cons, List.length_nil, Nat.reduceLeDiff, List.getD_cons_succ, List.getD_cons_zero, nod_arr, nd_no, e_lenA, List.length_map, true_and, e_gF]; subst hK hQ) | refine Jr.go ?_) | refine sd ?_)
          generalize hRR2 : Rv _ = R2
          have key2 : R2 (B (c2 || !inB r.p.length 1 10)) (X ++ [.cells [I r.b, I r.d, .arr (r.p.map piV) .no]]) := by
            rw [← hRR2]
            refine rv_go ?_
            by_cases hq : (c2 || !inB r.p.length 1 10) = true
            · have : okRi s l i = false := by
                rw [eO]
                unfold okR
                rw [← hc2] at hq
                cases c1
                · rfl
                · rw [Bool.not_true, Bool.false_or, Bool.or_eq_true] at hq
                  rcases hq with hq | hq
                  · rw [hq]; rfl
                  · rw [Bool.not_eq_true'] at hq
                    rw [hq, Bool.and_false]; rfl
              obtain ⟨Y, rfl⟩ := hX0
              repeat (first | (with_reducible first | refine Ju.go ?_ | (refine Hd.go ?_; intro K Q hK hQ; simp only [List.getD_cons_zero, List.getD_cons_succ, hp_len, hq, hp_assoc, nod_imm, e_cond, if_true]; subst hK hQ) | refine Jr.go ?_) | refine sd ?_)
              rw [hb1 this]
              exact end1Y
            · have hlen : r.p.length ≤ 10 := by
                rw [Bool.or_eq_true, not_or, Bool.not_eq_true', Bool.not_eq_false, inB_iff] at hq; omega
              have eR : okRi s l i = (r.p.all (okPi s (!decide (r.d = 0))) && r.p.any isSp && decide (cntK 3 r.p ≤ 1) && decide (cntK 4 r.p ≤ 1)) := by
                rw [eO]
                unfold okR
                rw [← hc2, Bool.or_eq_true, not_or, Bool.not_eq_true', Bool.not_eq_false, Bool.not_eq_true, Bool.or_eq_false_iff, Bool.not_eq_false'] at hq
                rw [hq.1.1, hq.1.2, hq.2]; rfl
              repeat (first | (with_reducible first | refine Ju.go ?_ | (refine Hd.go ?_; intro K Q hK hQ; simp only [List.getD_cons_zero, List.getD_cons_succ, hq, nod_imm, e_cond, Bool.false_eq_true, if_false, nod_ptr, e_fa, Nat.zero_add, e_lc0, Nat.reduceAdd, lv_cons, List.length_nil, Nat.reduceLeDiff, nod_arr, nd_no, true_and, e_lenA, List.length_map]; subst hK hQ) | refine Jr.go ?_) | refine sd ?_)
              have hH : (X ++ [Blk.cells [I r.b, I r.d, .arr (r.p.map piV) .no]])[X.length]? = some (.cells [I r.b, I r.d, .arr (r.p.map piV) .no]) := tail0 _ _
              have hXY : ∃ Y, X ++ [Blk.cells [I r.b, I r.d, .arr (r.p.map piV) .no]] = H ++ Y := by obtain ⟨Y, rfl⟩ := hX0; exact ⟨_, List.append_assoc _ _ _⟩
              generalize X ++ [Blk.cells [I r.b, I r.d, .arr (r.p.map piV) .no]] = Z at *
              refine loop_of (fun k : Nat => k ≤ r.p.length ∧ (r.p.take k).all (okPi s (!decide (r.d = 0))) = true) (fun k => [seV l, .cptr (syV s), .ptr X.length 0, B ((r.p.take k).any isSp), I (cntK 3 (r.p.take k)), I (cntK 4 (r.p.take k)), seV l, I l.length, I i, .arr (r.p.map piV) .no, I r.p.length, I k]) (fun _ => Z) (fun k => r.p.length - k) 0 ⟨Nat.zero_le _, rfl⟩ rfl rfl ?_
              intro k ⟨hk, hpk⟩
              have b3 := cntK_bd 3 (r.p.take k)
              have b4 := cntK_bd 4 (r.p.take k)
              have bl : (r.p.take k).length ≤ 10 := by rw [List.length_take]; omega
              repeat (first | (with_reducible first | refine Ju.go ?_ | (refine Hd.go ?_; intro K Q hK hQ; simp only [List.getD_cons_succ, List.getD_cons_zero, nod_imm, Try.underlying3, e_lss, e_cond, decide_eq_true_eq]; subst hK hQ) | refine Jr.go ?_) | refine sd ?_)
              by_cases hkt : k < r.p.length
              · have d2 : (k : Int) < r.p.length := by omega
                have hb2 : okPi s (!decide (r.d = 0)) (r.p.getD k default) = false → r.p.all (okPi s (!decide (r.d = 0))) = false := all_bad r.p default _ hkt
                have hg2 : okPi s (!decide (r.d = 0)) (r.p.getD k default) = true → (r.p.take (k + 1)).all (okPi s (!decide (r.d = 0))) = true := fun h => by rw [all_take r.p default _ hkt, hpk, h]; rfl
                have tk := take_snocA r.p default hkt
                repeat (first | (with_reducible first | refine Ju.go ?_ | (refine Hd.go ?_; intro K Q hK hQ; simp only [d2, if_true, List.getD_cons_succ, List.getD_cons_zero, nod_arr, nd_no, nod_imm, ix_pi, Int.toNat_natCast, true_and, nod_cptr, e_ldcA, lv_cons, List.length_nil, Nat.zero_add, Nat.reduceAdd, nod_agg, List.map_cons, nodL_imm, List.map_nil, e_bxI, okE_agg, all_c, ck_I, all_n, Bool.and_self, and_true, nod_ptr, e_fa, ld_at hH, Nat.reduceLeDiff, Try.underlying3, e_neq, nodL_arr]; subst hK hQ) | refine Jr.go ?_) | refine sd ?_)
                generalize r.p.getD k default = p at *
                refine call_of (c75 s (!decide (r.d = 0)) p _ sm) ?_
                by_cases ho : okPi s (!decide (r.d = 0)) p = true
                · rw [ho]
                  have a1 : (r.p.take (k + 1)).any isSp = (((r.p.take k).any isSp || decide (p.k = 1)) || decide (p.k = 2) || decide (p.k = 3)) := by rw [tk, any_snoc]; unfold isSp; simp only [Bool.or_assoc]
                  have a3 : cntK 3 (r.p.take (k + 1)) = cntK 3 (r.p.take k) + (if p.k = 3 then 1 else 0) := by rw [tk, cntK_snoc]
                  have a4 : cntK 4 (r.p.take (k + 1)) = cntK 4 (r.p.take k) + (if p.k = 4 then 1 else 0) := by rw [tk, cntK_snoc]
                  repeat (first | (with_reducible first | refine Ju.go ?_ | (refine Hd.go ?_; intro K Q hK hQ; simp only [nod_imm, e_not, Bool.not_true, List.getD_cons_zero, List.getD_cons_succ, e_cond, Bool.false_eq_true, if_false, nod_cptr, Try.underlying57, e_fac, Nat.zero_add, lv_cons, List.length_nil, Nat.reduceAdd, Nat.reduceLeDiff, e_ldc, e_eql, true_and, e_gF, j_or', j_one, decide_eq_true_eq]; subst hK hQ) | refine Jr.go ?_) | refine sd ?_)
                  by_cases k3 : p.k = 3
                  · have k4 : ¬ p.k = 4 := by omega
                    rw [if_pos k3] at a3
                    rw [if_neg k4, Int.add_zero] at a4
                    repeat (first | (with_reducible first | refine Ju.go ?_ | (refine Hd.go ?_; intro K Q hK hQ; simp only [k3, if_true, Int.reduceEq, decide_false, Bool.or_false, decide_true, Bool.or_true, List.getD_cons_succ, List.getD_cons_zero, nod_imm, Try.underlying3, e_add]; subst hK hQ) | refine Jr.go ?_) | refine sd ?_)
                    exact ⟨k + 1, ⟨by omega, hg2 ho⟩, by rw [a1, a3, a4, k3]; rfl, rfl, by omega⟩
                  · rw [if_neg k3, Int.add_zero] at a3
                    repeat (first | (with_reducible first | refine Ju.go ?_ | (refine Hd.go ?_; intro K Q hK hQ; simp only [k3, if_false, nod_imm, Try.underlying57, e_eql, e_cond, decide_eq_true_eq]; subst hK hQ) | refine Jr.go ?_) | refine sd ?_)
                    by_cases k4 : p.k = 4
                    · rw [if_pos k4] at a4
                      repeat (first | (with_reducible first | refine Ju.go ?_ | (refine Hd.go ?_; intro K Q hK hQ; simp only [k4, if_true, Int.reduceEq, decide_false, Bool.or_false, List.getD_cons_succ, List.getD_cons_zero, nod_imm, Try.underlying3, e_add]; subst hK hQ) | refine Jr.go ?_) | refine sd ?_)
                      exact ⟨k + 1, ⟨by omega, hg2 ho⟩, by rw [a1, a3, a4]; rfl, rfl, by omega⟩
                    · rw [if_neg k4, Int.add_zero] at a4
                      repeat (first | (with_reducible first | refine Ju.go ?_ | (refine Hd.go ?_; intro K Q hK hQ; simp only [k4, if_false, List.getD_cons_succ, List.getD_cons_zero, nod_imm, Try.underlying3, e_add]; subst hK hQ) | refine Jr.go ?_) | refine sd ?_)
                      exact ⟨k + 1, ⟨by omega, hg2 ho⟩, by rw [a1, a3, a4]; rfl, rfl, by omega⟩
                · rw [Bool.eq_false_iff.2 ho]
                  repeat (first | (with_reducible first | refine Ju.go ?_ | (refine Hd.go ?_; intro K Q hK hQ; simp only [nod_imm, e_not, Bool.not_false, List.getD_cons_zero, List.getD_cons_succ, e_cond, if_true]; subst hK hQ) | refine Jr.go ?_) | refine sd ?_)
                  obtain ⟨Y, rfl⟩ := hXY
                  rw [hb1 (by rw [eR, hb2 (Bool.eq_false_iff.2 ho)]; rfl)]
                  exact end1Y
              · have d2 : ¬ (k : Int) < r.p.length := by omega
                repeat (first | (with_reducible first | refine Ju.go ?_ | (refine Hd.go ?_; intro K Q hK hQ; simp only [d2, if_false, List.getD_cons_succ, List.getD_cons_zero, nod_imm, e_not, Try.underlying3, e_gtr, e_gF, j_or', j_one, e_cond]; subst hK hQ) | refine Jr.go ?_) | refine sd ?_)
                rw [List.take_of_length_le (show r.p.length ≤ k by omega)] at hpk ⊢
                rw [hpk, Bool.true_and] at eR
                by_cases hz : (!r.p.any isSp || decide (1 < cntK 3 r.p) || decide (1 < cntK 4 r.p)) = true
                · repeat (first | (with_reducible first | refine Ju.go ?_ | (refine Hd.go ?_; intro K Q hK hQ; simp only [hz, if_true]; subst hK hQ) | refine Jr.go ?_) | refine sd ?_)
                  obtain ⟨Y, rfl⟩ := hXY
                  rw [hb1 (by
                    rw [eR]
                    rw [Bool.or_eq_true, Bool.or_eq_true, Bool.not_eq_true', decide_eq_true_eq, decide_eq_true_eq] at hz
                    rcases hz with (hz | hz) | hz
                    · rw [hz]; rfl
                    · rw [decide_eq_false (show ¬ cntK 3 r.p ≤ 1 by omega), Bool.and_false]; rfl
                    · rw [decide_eq_false (show ¬ cntK 4 r.p ≤ 1 by omega), Bool.and_false])]
                  exact end1Y
                · repeat (first | (with_reducible first | refine Ju.go ?_ | (refine Hd.go ?_; intro K Q hK hQ; simp only [hz, Bool.false_eq_true, if_false, List.getD_cons_succ, List.getD_cons_zero, nod_imm, Try.underlying3, e_add]; subst hK hQ) | refine Jr.go ?_) | refine sd ?_)
                  refine ⟨i + 1, ⟨by omega, hg1 ?_⟩, rfl, hXn, by omega⟩
                  rw [eR]
                  rw [Bool.or_eq_true, Bool.or_eq_true, Bool.not_eq_true', decide_eq_true_eq, decide_eq_true_eq, not_or, not_or, Bool.not_eq_false] at hz
                  rw [hz.1.1, decide_eq_true (show cntK 3 r.p ≤ 1 by omega), decide_eq_true (show cntK 4 r.p ≤ 1 by omega)]; rfl
          cases c2
          · repeat (first | (with_reducible first | refine Ju.go ?_ | (refine Hd.go ?_; intro K Q hK hQ; simp only [cond_false]; subst hK hQ) | refine Jr.go ?_) | refine sd ?_)
            refine call_ofD (c45 _ _ _ _) ?_
            repeat (first | (with_reducible first | refine Ju.go ?_ | (refine Hd.go ?_; intro K Q hK hQ; simp only [nod_imm, e_not]; subst hK hQ) | refine Jr.go ?_) | refine sd ?_)
            exact key2
          · repeat (first | (with_reducible first | refine Ju.go ?_ | (refine Hd.go ?_; intro K Q hK hQ; simp only [cond_true]; subst hK hQ) | refine Jr.go ?_) | refine sd ?_)
            exact key2
        cases c1
        · repeat (first | (with_reducible first | refine Ju.go ?_ | (refine Hd.go ?_; intro K Q hK hQ; simp only [Bool.not_false, cond_true]; subst hK hQ) | refine Jr.go ?_) | refine sd ?_)
          exact key
        · by_cases hd : r.d = 0
          · rw [decide_eq_true hd] at key
            repeat (first | (with_reducible first | refine Ju.go ?_ | (refine Hd.go ?_; intro K Q hK hQ; simp only [Bool.not_true, cond_false, hd, decide_true]; subst hK hQ) | refine Jr.go ?_) | refine sd ?_)
            exact key
          · rw [decide_eq_false hd] at key
            repeat (first | (with_reducible first | refine Ju.go ?_ | (refine Hd.go ?_; intro K Q hK hQ; simp only [Bool.not_true, cond_false, hd, decide_false, Bool.not_false, cond_true]; subst hK hQ) | refine Jr.go ?_) | refine sd ?_)
            refine call_ofD (c45 _ _ _ _) ?_
            repeat (first | (with_reducible first | refine Ju.go ?_ | (refine Hd.go ?_; intro K Q hK hQ; simp only [nod_imm, e_not]; subst hK hQ) | refine Jr.go ?_) | refine sd ?_)
            exact key
      · have d : ¬ (i : Int) < l.length := by omega
        obtain ⟨Y, rfl⟩ := hX0
        repeat (first | (with_reducible first | refine Ju.go ?_ | (refine Hd.go ?_; intro K Q hK hQ; simp only [d, if_false]; subst hK hQ) | refine Jr.go ?_) | refine sd ?_)
        have : okSe s l = true := by
          unfold okSe
          rw [hA, Bool.true_and, ← hr, show i = l.length by omega]
        rw [this]
        exact end1Y
  · have : okSe s l = false := by unfold okSe; rw [Bool.eq_false_iff.2 hin]; rfl
    rw [this, Bool.eq_false_iff.2 hin]
    refine ⟨fun h => by simp at h, ?_⟩
    repeat (first | (with_reducible first | refine Ju.go ?_ | (refine Hd.go ?_; intro K Q hK hQ; simp only [Bool.not_false, Bool.true_or, nod_imm, nod_arr, nd_no, Try.underlying3, nod_cptr, e_fac, Nat.zero_add, lv_cons, List.length_nil, Nat.reduceAdd, Nat.reduceLeDiff, List.getD_cons_zero, e_ldc, true_and, e_lenA, List.length_map, e_sub, e_gF, cond_true, j_one, List.getD_cons_succ, e_cond, if_true]; subst hK hQ) | refine Jr.go ?_) | refine sd ?_)
    exact end1 (fzI _)
end Go.Proofs.Ytgodfjbmblghnaa


set_option linter.unusedVariables false
set_option linter.unusedSimpArgs false
set_option linter.unnecessarySimpa false
set_option maxRecDepth 20000
set_option maxHeartbeats 2000000
namespace Go.Proofs.Ytgodfjbmblghnaa
open Go Go.Ab Go.Proofs
attribute [local congr] g_bin g_nilS g_nilP g_un g_ext g_bx g_fa g_ld g_st g_ix g_ixA g_slc g_mk g_bs g_bd g_nc g_cv g_len g_lenT g_app g_appB g_cpy g_mm g_call g_callG g_calm g_calmG g_range g_res g_pick g_cond g_loop g_Jv g_eqS g_eqP g_fd g_ixT g_ta g_lkp g_upd g_mkM g_appS g_inv g_callE g_callEG g_invE g_zr g_wr
def okHd (s : Sy) : Bool := inB s.top 0 999999999999 && inB s.gen 1 4 && inB s.cas 1 8 && inB s.cls 1 6
def okSz (s : Sy) : Bool := decide ((s.te.length : Int) ≤ 500) && decide ((s.pl.length : Int) ≤ 40) && inB s.se.length 1 8
def okSy (s : Sy) : Bool := okHd s && okSz s && s.te.all (okTe s) && s.pl.all (okPl s) && s.se.all (okSe s)
theorem Fe.of {s : Sy} (h : okHd s = true) : Fe s := by
  unfold okHd at h
  simp only [Bool.and_eq_true, inB_iff] at h
  exact ⟨h.1.1.2, h.1.2, h.2⟩
theorem c49 (s : Sy) (l : List Nu) (H : Hp) (sm : Sm s) (hl : l ∈ s.se) : Ret Try.prog 49 [seV l, .cptr (syV s)] H (B (!okSe s l)) H := by
  have h := sm.nu l hl
  refine mk49 _ _ rfl (Nat.le_refl _) (.inl rfl) ?_
  simp only [vc49, real]
  repeat (first | (with_reducible first | refine Ju.go ?_ | (refine Hd.go ?_; intro K Q hK hQ; simp only [nod_cptr, e_ldcA, lv_cons, List.length_nil, Nat.zero_add, Nat.reduceAdd, true_and, nod_agg, List.map_cons, nodL_imm, nodL_arr, nd_no, List.map_nil, nod_arr]; subst hK hQ) | refine Jr.go ?_) | refine sd ?_)
  refine call_of (c50 s l H sm h.1 h.2) ?_
  repeat (first | (with_reducible first | refine Ju.go ?_ | (refine Hd.go ?_; intro K Q hK hQ; simp only [nod_imm, e_not]; subst hK hQ) | refine Jr.go ?_) | refine sd ?_)
  exact end1 (fzI _)
theorem c74 (s : Sy) (H : Hp) (sm : Sm s) : Ret Try.prog 74 [.arr (s.se.map seV) .no, .fn 49 [.cptr (syV s)]] H (I (idxI (fun l => !okSe s l) s.se)) H := by
  have hm := sm.se
  refine mk74 _ _ rfl (Nat.le_refl _) (.inl rfl) ?_
  simp only [vc74, real]
  repeat (first | (with_reducible first | refine Ju.go ?_ | (refine Hd.go ?_; intro K Q hK hQ; simp only [nod_arr, nd_no, e_lenA, List.length_map]; subst hK hQ) | refine Jr.go ?_) | refine sd ?_)
  refine loop_of (fun i : Nat => i ≤ s.se.length ∧ ∀ (j : Nat) (y : List Nu), j < i → s.se[j]? = some y → (!okSe s y) = false) (fun i => [.arr (s.se.map seV) .no, .fn 49 [.cptr (syV s)], I s.se.length, I i]) (fun _ => H) (fun i => s.se.length - i) 0 ⟨Nat.zero_le _, fun j y h => absurd h (Nat.not_lt_zero _)⟩ rfl rfl ?_
  intro i ⟨hi, hp⟩
  repeat (first | (with_reducible first | refine Ju.go ?_ | (refine Hd.go ?_; intro K Q hK hQ; simp only [List.getD_cons_succ, List.getD_cons_zero, nod_imm, Try.underlying3, e_lss, e_cond, decide_eq_true_eq]; subst hK hQ) | refine Jr.go ?_) | refine sd ?_)
  by_cases hlt : i < s.se.length
  · have d : (i : Int) < s.se.length := by omega
    have hg := getD_someA s.se [] hlt
    have hmm := getD_memA s.se [] hlt
    repeat (first | (with_reducible first | refine Ju.go ?_ | (refine Hd.go ?_; intro K Q hK hQ; simp only [d, if_true, List.getD_cons_zero, nod_arr, nd_no, List.getD_cons_succ, nod_imm, ix_se, Int.toNat_natCast, true_and, nod_cptr, e_ldcV, nod_fn, e_callEG]; subst hK hQ) | refine Jr.go ?_) | refine sd ?_)
    generalize s.se.getD i [] = l at *
    refine call_of (c49 s l H sm hmm) ?_
    by_cases hb : (!okSe s l) = true
    · rw [hb]
      repeat (first | (with_reducible first | refine Ju.go ?_ | (refine Hd.go ?_; intro K Q hK hQ; simp only [nod_imm, e_cond, if_true]; subst hK hQ) | refine Jr.go ?_) | refine sd ?_)
      rw [idxI_at _ s.se i _ hg hb hp]
      exact end1 (fzI _)
    · rw [Bool.eq_false_iff.2 hb]
      repeat (first | (with_reducible first | refine Ju.go ?_ | (refine Hd.go ?_; intro K Q hK hQ; simp only [nod_imm, e_cond, Bool.false_eq_true, if_false, List.getD_cons_succ, List.getD_cons_zero, Try.underlying3, e_add]; subst hK hQ) | refine Jr.go ?_) | refine sd ?_)
      refine ⟨i + 1, ⟨by omega, fun j y hj hy => ?_⟩, rfl, rfl, by omega⟩
      by_cases e : j = i
      · subst e
        rw [hg] at hy
        cases hy
        exact Bool.eq_false_iff.2 hb
      · exact hp j y (by omega) hy
  · have d : ¬ (i : Int) < s.se.length := by omega
    repeat (first | (with_reducible first | refine Ju.go ?_ | (refine Hd.go ?_; intro K Q hK hQ; simp only [d, if_false]; subst hK hQ) | refine Jr.go ?_) | refine sd ?_)
    rw [idxI_none _ s.se (fun j y hy => hp j y (by have := (List.getElem?_eq_some_iff.1 hy).1; omega) hy)]
    exact end1 (fzI _)
theorem c48 (s : Sy) (H : Hp) (sm : Sm s) : Ret Try.prog 48 [.arr (s.se.map seV) .no, .fn 49 [.cptr (syV s)]] H (B (!s.se.all (okSe s))) H := by
  refine mk48 _ _ rfl (Nat.le_refl _) (.inl rfl) ?_
  simp only [vc48, real]
  repeat (first | (with_reducible first | refine Ju.go ?_ | (refine Hd.go ?_; intro K Q hK hQ; simp only [nod_arr, nd_no, nod_fn]; subst hK hQ) | refine Jr.go ?_) | refine sd ?_)
  refine call_of (c74 s H sm) ?_
  repeat (first | (with_reducible first | refine Ju.go ?_ | (refine Hd.go ?_; intro K Q hK hQ; simp only [nod_imm, Try.underlying3, e_geq, idxI_any]; subst hK hQ) | refine Jr.go ?_) | refine sd ?_)
  rw [show (s.se.any fun l => !okSe s l) = !s.se.all (okSe s) by rw [← any_not, Bool.not_not]]
  exact end1 (fzI _)
theorem c18 (s : Sy) (H : Hp) (sm : Sm s) : Ret Try.prog 18 [syV s] H (I (if okSy s = true then 0 else 2)) H := by
  have h1 := sm.te
  have h2 := sm.pl
  have h3 := sm.se
  refine mk18 _ rfl (Nat.le_refl _) (.inl rfl) ?_
  simp only [vc18, real]
  repeat (first | (with_reducible first | refine Ju.go ?_ | (refine Hd.go ?_; intro K Q hK hQ; simp only [nod_agg, List.map_cons, nodL_imm, nodL_arr, nd_no, List.map_nil, e_bxI, okE_agg, lv_cons, List.length_nil, Nat.zero_add, Nat.reduceAdd, all_c, ck_I, ck_arr, all_n, Bool.and_self, and_true, true_and, nod_cptr, e_fac, Nat.reduceLeDiff, List.getD_cons_zero, e_ldc, nod_imm]; subst hK hQ) | refine Jr.go ?_) | refine sd ?_)
  refine call_of (c45 _ _ _ _) ?_
  repeat (first | (with_reducible first | refine Ju.go ?_ | (refine Hd.go ?_; intro K Q hK hQ; simp only [nod_imm, e_not, nod_cptr, e_fac, Nat.reduceAdd, lv_cons, List.length_nil, Nat.zero_add, Nat.reduceLeDiff, List.getD_cons_succ, List.getD_cons_zero, e_ldc, true_and, e_gF]; subst hK hQ) | refine Jr.go ?_) | refine sd ?_)
  refine jo_n (c45 _ _ _ _) ?_
  repeat (first | (with_reducible first | refine Ju.go ?_ | (refine Hd.go ?_; intro K Q hK hQ; simp only [nod_imm, nod_cptr, e_fac, Nat.reduceAdd, lv_cons, List.length_nil, Nat.zero_add, Nat.reduceLeDiff, List.getD_cons_succ, List.getD_cons_zero, e_ldc, true_and, e_gF]; subst hK hQ) | refine Jr.go ?_) | refine sd ?_)
  refine jo_n (c45 _ _ _ _) ?_
  repeat (first | (with_reducible first | refine Ju.go ?_ | (refine Hd.go ?_; intro K Q hK hQ; simp only [nod_imm, nod_cptr, e_fac, Nat.reduceAdd, lv_cons, List.length_nil, Nat.zero_add, Nat.reduceLeDiff, List.getD_cons_succ, List.getD_cons_zero, e_ldc, true_and, e_gF]; subst hK hQ) | refine Jr.go ?_) | refine sd ?_)
  refine jo_n (c45 _ _ _ _) ?_
  have e0 : (!inB s.top 0 999999999999 || !inB s.gen 1 4 || !inB s.cas 1 8 || !inB s.cls 1 6) = !okHd s := by
    unfold okHd
    simp only [Bool.not_and]
  cases hd : okHd s
  · have : okSy s = false := by unfold okSy; rw [hd]; rfl
    rw [hd] at e0
    repeat (first | (with_reducible first | refine Ju.go ?_ | (refine Hd.go ?_; intro K Q hK hQ; simp only [e0, Bool.not_false, List.getD_cons_succ, List.getD_cons_zero, nod_imm, e_cond, if_true]; subst hK hQ) | refine Jr.go ?_) | refine sd ?_)
    rw [this]
    exact end1 (fzI _)
  · have fe := Fe.of hd
    rw [hd] at e0
    repeat (first | (with_reducible first | refine Ju.go ?_ | (refine Hd.go ?_; intro K Q hK hQ; simp only [e0, Bool.not_true, List.getD_cons_succ, List.getD_cons_zero, nod_imm, e_cond, Bool.false_eq_true, if_false, nod_cptr, e_fac, Nat.reduceAdd, lv_cons, List.length_nil, Nat.zero_add, Nat.reduceLeDiff, true_and, e_ldcV, nod_arr, nd_no, e_lenA, List.length_map, Try.underlying3, e_gtr, e_gF, j_or', j_one]; subst hK hQ) | refine Jr.go ?_) | refine sd ?_)
    refine jo_n (c45 _ _ _ _) ?_
    repeat (first | (with_reducible first | refine Ju.go ?_ | (refine Hd.go ?_; intro K Q hK hQ; simp only [nod_imm, List.getD_cons_zero, nod_cptr, e_ldcA, lv_cons, List.length_nil, Nat.zero_add, Nat.reduceAdd, nod_agg, List.map_cons, nodL_imm, nodL_arr, nd_no, List.map_nil, true_and, e_gF]; subst hK hQ) | refine Jr.go ?_) | refine sd ?_)
    refine jo_n (c46 s H sm fe) ?_
    repeat (first | (with_reducible first | refine Ju.go ?_ | (refine Hd.go ?_; intro K Q hK hQ; simp only [nod_imm, List.getD_cons_zero, nod_cptr, e_ldcA, lv_cons, List.length_nil, Nat.zero_add, Nat.reduceAdd, nod_agg, List.map_cons, nodL_imm, nodL_arr, nd_no, List.map_nil, true_and, e_gF]; subst hK hQ) | refine Jr.go ?_) | refine sd ?_)
    refine jo_n (c47 s H sm fe) ?_
    have e1 : (decide (500 < (s.te.length : Int)) || decide (40 < (s.pl.length : Int)) || !inB s.se.length 1 8 || !s.te.all (okTe s) || !s.pl.all (okPl s)) = !(okSz s && s.te.all (okTe s) && s.pl.all (okPl s)) := by
      unfold okSz
      have a1 : decide (500 < (s.te.length : Int)) = !decide ((s.te.length : Int) ≤ 500) := by rw [← decide_not, decide_eq_decide]; omega
      have a2 : decide (40 < (s.pl.length : Int)) = !decide ((s.pl.length : Int) ≤ 40) := by rw [← decide_not, decide_eq_decide]; omega
      rw [a1, a2]
      simp only [Bool.not_and]
    have eS : okSy s = ((okSz s && s.te.all (okTe s) && s.pl.all (okPl s)) && s.se.all (okSe s)) := by
      unfold okSy
      rw [hd]; simp only [Bool.true_and]
    rw [eS]
    generalize (okSz s && s.te.all (okTe s) && s.pl.all (okPl s)) = b at *
    cases b
    · repeat (first | (with_reducible first | refine Ju.go ?_ | (refine Hd.go ?_; intro K Q hK hQ; simp only [e1, Bool.not_false, List.getD_cons_zero, List.getD_cons_succ, nod_imm, e_cond, if_true]; subst hK hQ) | refine Jr.go ?_) | refine sd ?_)
      exact end1 (fzI _)
    · repeat (first | (with_reducible first | refine Ju.go ?_ | (refine Hd.go ?_; intro K Q hK hQ; simp only [e1, Bool.not_true, List.getD_cons_zero, List.getD_cons_succ, nod_imm, e_cond, Bool.false_eq_true, if_false, nod_cptr, e_fac, Nat.reduceAdd, lv_cons, List.length_nil, Nat.zero_add, Nat.reduceLeDiff, true_and, e_ldcV, nod_arr, nd_no]; subst hK hQ) | refine Jr.go ?_) | refine sd ?_)
      refine call_of (c48 s H sm) ?_
      cases s.se.all (okSe s)
      · repeat (first | (with_reducible first | refine Ju.go ?_ | (refine Hd.go ?_; intro K Q hK hQ; simp only [Bool.not_false, nod_imm, e_cond, if_true]; subst hK hQ) | refine Jr.go ?_) | refine sd ?_)
        exact end1 (fzI _)
      · repeat (first | (with_reducible first | refine Ju.go ?_ | (refine Hd.go ?_; intro K Q hK hQ; simp only [Bool.not_true, nod_imm, e_cond, Bool.false_eq_true, if_false]; subst hK hQ) | refine Jr.go ?_) | refine sd ?_)
        exact end1 (fzI _)
end Go.Proofs.Ytgodfjbmblghnaa


set_option linter.unusedVariables false
set_option linter.unusedSimpArgs false
set_option linter.unnecessarySimpa false
set_option maxRecDepth 20000
set_option maxHeartbeats 2000000
namespace Go.Proofs.Ytgodfjbmblghnaa
open Go Go.Ab Go.Proofs
attribute [local congr] g_bin g_nilS g_nilP g_un g_ext g_bx g_fa g_ld g_st g_ix g_ixA g_slc g_mk g_bs g_bd g_nc g_cv g_len g_lenT g_app g_appB g_cpy g_mm g_call g_callG g_calm g_calmG g_range g_res g_pick g_cond g_loop g_Jv g_eqS g_eqP g_fd g_ixT g_ta g_lkp g_upd g_mkM g_appS g_inv g_callE g_callEG g_invE g_zr g_wr
def clsOf (l : List Pl) (n : Int) : Int := match l.find? (fun p => inB (n.tmod p.m) p.f p.t) with | some p => p.c | none => 0
theorem find_at {α : Type} (p : α → Bool) (l : List α) (i : Nat) (x : α) (hx : l[i]? = some x) (hp : p x = true) (hn : (l.take i).all (fun y => !p y) = true) : l.find? p = some x := by
  obtain ⟨hi, e⟩ := List.getElem?_eq_some_iff.1 hx
  rw [List.find?_eq_some_iff_getElem]
  refine ⟨hp, i, hi, e, fun j hj => ?_⟩
  rw [List.all_eq_true] at hn
  exact hn _ (List.mem_take_iff_getElem.2 ⟨j, by omega, rfl⟩)
theorem find_no {α : Type} (p : α → Bool) (l : List α) (hn : l.all (fun y => !p y) = true) : l.find? p = none := by
  rw [List.find?_eq_none]
  rw [List.all_eq_true] at hn
  intro x hx h
  have := hn x hx
  rw [h] at this
  cases this
theorem c42 (s : Sy) (n : Int) (H : Hp) (sm : Sm s) (hm : ∀ p, p ∈ s.pl → 1 ≤ p.m) : Ret Try.prog 42 [syV s, I n] H (I (clsOf s.pl n)) H := by
  have h1 := sm.pl
  refine mk42 _ _ rfl (Nat.le_refl _) (.inl rfl) ?_
  simp only [vc42, real]
  repeat (first | (with_reducible first | refine Ju.go ?_ | (refine Hd.go ?_; intro K Q hK hQ; simp only [nod_agg, List.map_cons, nodL_imm, nodL_arr, nd_no, List.map_nil, e_bxI, okE_agg, lv_cons, List.length_nil, Nat.zero_add, Nat.reduceAdd, all_c, ck_I, ck_arr, all_n, Bool.and_self, and_true, true_and, nod_cptr, e_fac, Nat.reduceLeDiff, List.getD_cons_succ, List.getD_cons_zero, e_ldcV, nod_arr, e_lenA, List.length_map]; subst hK hQ) | refine Jr.go ?_) | refine sd ?_)
  refine loop_of (fun i : Nat => i ≤ s.pl.length ∧ (s.pl.take i).all (fun p => !inB (n.tmod p.m) p.f p.t) = true) (fun i => [I n, .arr (s.pl.map plV) .no, I s.pl.length, I i]) (fun _ => H) (fun i => s.pl.length - i) 0 ⟨Nat.zero_le _, rfl⟩ rfl rfl ?_
  intro i ⟨hi, hp⟩
  repeat (first | (with_reducible first | refine Ju.go ?_ | (refine Hd.go ?_; intro K Q hK hQ; simp only [List.getD_cons_succ, List.getD_cons_zero, nod_imm, Try.underlying3, e_lss, e_cond, decide_eq_true_eq]; subst hK hQ) | refine Jr.go ?_) | refine sd ?_)
  by_cases hlt : i < s.pl.length
  · have d : (i : Int) < s.pl.length := by omega
    have hg := getD_someA s.pl default hlt
    have hmm := hm _ (getD_memA s.pl default hlt)
    have hn := all_take s.pl default (fun p => !inB (n.tmod p.m) p.f p.t) hlt
    repeat (first | (with_reducible first | refine Ju.go ?_ | (refine Hd.go ?_; intro K Q hK hQ; simp only [d, if_true, List.getD_cons_succ, List.getD_cons_zero, nod_arr, nd_no, nod_imm, ix_pl, Int.toNat_natCast, true_and, nod_cptr, e_ldcA, lv_cons, List.length_nil, Nat.zero_add, Nat.reduceAdd, nod_agg, List.map_cons, nodL_imm, List.map_nil, e_bxI, okE_agg, all_c, ck_I, all_n, Bool.and_self, and_true, e_fac, Nat.reduceLeDiff, e_ldc, Try.underlying3, e_rem, ne_eq]; subst hK hQ) | refine Jr.go ?_) | refine sd ?_)
    generalize s.pl.getD i default = p at *
    have hz : p.m ≠ 0 := by omega
    refine call_ofD (c45 _ _ _ _) ?_
    by_cases hb : inB (n.tmod p.m) p.f p.t = true
    · rw [hb]
      repeat (first | (with_reducible first | refine Ju.go ?_ | (refine Hd.go ?_; intro K Q hK hQ; simp only [List.getD_cons_zero, List.getD_cons_succ, nod_imm, e_cond, if_true, nod_cptr, e_fac, Nat.reduceAdd, lv_cons, List.length_nil, Nat.zero_add, Nat.reduceLeDiff, true_and, e_ldc]; subst hK hQ) | refine Jr.go ?_) | refine sd ?_)
      rw [show clsOf s.pl n = p.c by unfold clsOf; rw [find_at _ s.pl i p hg hb hp]]
      exact end1 (fzI _)
    · rw [Bool.eq_false_iff.2 hb]
      repeat (first | (with_reducible first | refine Ju.go ?_ | (refine Hd.go ?_; intro K Q hK hQ; simp only [List.getD_cons_zero, List.getD_cons_succ, nod_imm, e_cond, Bool.false_eq_true, if_false, Try.underlying3, e_add]; subst hK hQ) | refine Jr.go ?_) | refine sd ?_)
      refine ⟨i + 1, ⟨by omega, ?_⟩, rfl, rfl, by omega⟩
      rw [hn, hp, Bool.eq_false_iff.2 hb]; rfl
  · have d : ¬ (i : Int) < s.pl.length := by omega
    repeat (first | (with_reducible first | refine Ju.go ?_ | (refine Hd.go ?_; intro K Q hK hQ; simp only [d, if_false]; subst hK hQ) | refine Jr.go ?_) | refine sd ?_)
    rw [List.take_of_length_le (by omega)] at hp
    rw [show clsOf s.pl n = 0 by unfold clsOf; rw [find_no _ s.pl hp]]
    exact end1 (fzI _)
end Go.Proofs.Ytgodfjbmblghnaa


set_option linter.unusedVariables false
set_option linter.unusedSimpArgs false
set_option linter.unnecessarySimpa false
set_option maxRecDepth 20000
set_option maxHeartbeats 2000000
namespace Go.Proofs.Ytgodfjbmblghnaa
open Go Go.Ab Go.Proofs
attribute [local congr] g_bin g_nilS g_nilP g_un g_ext g_bx g_fa g_ld g_st g_ix g_ixA g_slc g_mk g_bs g_bd g_nc g_cv g_len g_lenT g_app g_appB g_cpy g_mm g_call g_callG g_calm g_calmG g_range g_res g_pick g_cond g_loop g_Jv g_eqS g_eqP g_fd g_ixT g_ta g_lkp g_upd g_mkM g_appS g_inv g_callE g_callEG g_invE g_zr g_wr
theorem okSy.parts {s : Sy} (h : okSy s = true) : okHd s = true ∧ okSz s = true ∧ s.te.all (okTe s) = true ∧ s.pl.all (okPl s) = true ∧ s.se.all (okSe s) = true := by
  unfold okSy at h
  simp only [Bool.and_eq_true] at h
  exact ⟨h.1.1.1.1, h.1.1.1.2, h.1.1.2, h.1.2, h.2⟩
theorem okSy.mod {s : Sy} (h : okSy s = true) : ∀ p, p ∈ s.pl → 1 ≤ p.m := fun p hp => by
  have := List.all_eq_true.1 (okSy.parts h).2.2.2.1 p hp
  unfold okPl at this
  simp only [Bool.and_eq_true, inB_iff] at this
  exact this.1.1.1.1.1
theorem c16 (s : Sy) (n : Int) (H : Hp) (sm : Sm s) : Ret Try.prog 16 [syV s, I n] H (.tup [I (if okSy s = true ∧ 0 ≤ n then clsOf s.pl n else 0), I (if okSy s = true ∧ 0 ≤ n then 0 else 2)]) H := by
  refine mk16 _ _ rfl (Nat.le_refl _) (.inl rfl) ?_
  simp only [vc16, real]
  repeat (first | (with_reducible first | refine Ju.go ?_ | (refine Hd.go ?_; intro K Q hK hQ; simp only [nod_agg, List.map_cons, nodL_imm, nodL_arr, nd_no, List.map_nil, e_bxI, okE_agg, lv_cons, List.length_nil, Nat.zero_add, Nat.reduceAdd, all_c, ck_I, ck_arr, all_n, Bool.and_self, and_true, true_and, nod_cptr, e_ldcA]; subst hK hQ) | refine Jr.go ?_) | refine sd ?_)
  refine call_of (c18 s H sm) ?_
  by_cases ho : okSy s = true
  · rw [if_pos ho]
    by_cases hn : n < 0
    · rw [if_neg (show ¬ (okSy s = true ∧ 0 ≤ n) by omega), if_neg (show ¬ (okSy s = true ∧ 0 ≤ n) by omega)]
      repeat (first | (with_reducible first | refine Ju.go ?_ | (refine Hd.go ?_; intro K Q hK hQ; simp only [nod_imm, Try.underlying29, e_neq, decide_true, Bool.not_true, Try.underlying3, e_lss, hn, e_gF, cond_false, j_one, List.getD_cons_succ, List.getD_cons_zero, e_cond, if_true]; subst hK hQ) | refine Jr.go ?_) | refine sd ?_)
      exact end2 rfl rfl (fzI _) (fzI _)
    · rw [if_pos (show okSy s = true ∧ 0 ≤ n from ⟨ho, by omega⟩), if_pos (show okSy s = true ∧ 0 ≤ n from ⟨ho, by omega⟩)]
      repeat (first | (with_reducible first | refine Ju.go ?_ | (refine Hd.go ?_; intro K Q hK hQ; simp only [nod_imm, Try.underlying29, e_neq, decide_true, Bool.not_true, Try.underlying3, e_lss, hn, decide_false, e_gF, cond_false, j_one, List.getD_cons_succ, List.getD_cons_zero, e_cond, Bool.false_eq_true, if_false, nod_cptr, e_ldcA, lv_cons, List.length_nil, Nat.zero_add, Nat.reduceAdd, true_and, nod_agg, List.map_cons, nodL_imm, nodL_arr, nd_no, List.map_nil]; subst hK hQ) | refine Jr.go ?_) | refine sd ?_)
      refine call_of (c42 s n H sm (okSy.mod ho)) ?_
      repeat (first | (with_reducible first | refine Ju.go ?_ | (refine Hd.go ?_; intro K Q hK hQ; simp only [Try.underlying3, Try.underlying4, Try.underlying5, Try.underlying9, Try.underlying29, Try.underlying57, Try.underlying55, j_one, j_side, j_tl, j_fl, nod_nod, nod_imm, nod_ints, nd_no, nd_own, nd_full, nd_fO, oF_ap, oF_succ, nod_sl, nod_ptr, nod_cptr, nod_fn, nod_junk, nodL_imm, nod_agg, nod_tup, nod2_imm, nod2_agg, cl_imm, cl_ints, cl_agg, e_add, e_sub, e_mul, e_quo, e_rem, e_eql, e_neq, e_lss, e_leq, e_gtr, e_geq, e_beq, e_bne, e_neg, e_not, e_pick, e_cond, e_gT, e_gF, e_len, e_lenA, e_lenS, e_ix, e_ixS, e_ldc, e_ldci, e_fa, rep_cl, rep_I, e_bx, okE_I, okE_B, okE_E8, okE_ints, stV_imm, stV_ints, j_and', j_or', List.getD_cons_zero, List.getD_cons_succ, List.map_cons, List.map_nil, decide_eq_true_eq, Int.toNat_natCast, Nat.mul_one, Nat.zero_add, true_and, and_true, List.length_map, Bool.not_eq_true', decide_eq_false_iff_not, nod_lists, e_lenL, e_ixL, okE_lists, bs1, bs1L, bs2L, e_app, e_appL, e_app0, e_app0L, e_slcLo, e_slcHi, e_slcLH, e_slcHH, e_slcLHH, e_callG, e_callY, e_calmG, e_slS0, e_slSLo, e_slSHi, e_slSLH, e_slSHH, e_slSLHH, e_max2, e_min2, e_max3, e_x20, e_x21, e_x30, e_x31, e_x32, nod2_ints, nod2_lists, rep_fl, bs0, e_nilE, if_true, if_false, cond_true, cond_false, decide_true, decide_false, eq_self, Bool.false_eq_true, false_implies, true_implies, ap_own, ap_full, e_slcLoL, e_slcHiL, e_slcLHL, hp_assoc, hp_cons, hp_nil, hp_len, hp_len_cons, hp_len_nil, lv_cons, lv_nil, vs_0, vs_s, spl_s, spl_0, spl_n, dr_s, dr_0, tk_s, tk_0, e_bxI, e_fac, e_facA, e_ldcA, e_ldcL, e_ldcF, okE_agg, ck_I, ck_B, ck_ints, ck_lists, ck_arr, ck_ptr, ck_cptr, ck_fn, all_c, all_n, stV_agg, stV_lists, stV_arr, stV_ptr, stV_cptr, stV_fn, nodL_ints, nodL_lists, nodL_ptr, nodL_cptr, nodL_fn, nodL_arr0, cl_arr, cl_ptr, cl_cptr, cl_fn, cl_lists, okE_arr, okE_fn, okE_ptr, okE_cptr, e_bd0, e_bd1, e_wr, Nat.reduceAdd, Nat.reduceLeDiff, Nat.reduceEqDiff, Nat.add_zero, Bool.and_self, Bool.true_and, Bool.and_true, e_lc0, e_lA0, e_lM0, e_sc0, e_rc0, e_rA0, e_lI0, e_sI0, e_cI0, e_lc1, e_lA1, e_lM1, e_sc1, e_rc1, e_rA1, e_lI1, e_sI1, e_cI1, e_lc2, e_lA2, e_lM2, e_sc2, e_rc2, e_rA2, e_lI2, e_sI2, e_cI2, e_lc3, e_lA3, e_lM3, e_sc3, e_rc3, e_rA3, e_lI3, e_sI3, e_cI3, e_lc4, e_lA4, e_lM4, e_sc4, e_rc4, e_rA4, e_lI4, e_sI4, e_cI4, e_lc5, e_lA5, e_lM5, e_sc5, e_rc5, e_rA5, e_lI5, e_sI5, e_cI5, own0_arr, own0_ints, own0_lists, own0_imm, own0_ptr, own0_cptr, own0_fn, own0_agg, e_appB, e_appB0, ck_sl, own0_sl, stV_sl, nodL_sl, cl_sl, okE_sl, e_mkM, e_mkI, e_mkIm, e_callB, nod_bfn, nod_ifc, nod_map, nodL_ifc, nodL_bfn, nodL_map, cl_ifc, cl_bfn, ck_ifc, ck_bfn, ck_map, stV_ifc, okE_ifc, okE_bfn, nod_arr, nodL_arr, e_addU, e_mulU, e_shrK, e_shlK, e_andK, e_cv64, e_cv32, e_callEG, e_callEY, e_callEB, e_zr, e_nilSl, e_ncP, e_ncC, e_npnP, e_npeP, e_npnC, e_npeC, e_npnN, e_npeN, e_ixAP, e_ldcP, e_ldcS, e_ldcV, e_ldcT, okE_nilP, ck_nilP, okE_nilI, ck_nilI, okE_str, ck_str, e_tlen, e_tix, e_teq, e_tne, e_tadd, e_tb, e_u8lss, e_u8gtr, noV_full, nod_arr, List.length_map, reduceIte, Int.reduceEq, Int.reduceNeg, ne_eq, not_true_eq_false, not_false_eq_true, Bool.not_true, Bool.not_false, Bool.true_or, Bool.or_true, Bool.false_or, Bool.or_false, Bool.and_true, Bool.and_false, Bool.false_and, Bool.not_not, Bool.or_self, List.length_nil, Int.ofNat_zero, Int.cast_ofNat_Int, Int.natCast_zero, beq_self_eq_true, Bool.true_eq_false]; subst hK hQ) | refine Jr.go ?_) | refine sd ?_)
      exact end2 rfl rfl (fzI _) (fzI _)
  · rw [if_neg ho, if_neg (fun h => ho h.1), if_neg (fun h => ho h.1)]
    repeat (first | (with_reducible first | refine Ju.go ?_ | (refine Hd.go ?_; intro K Q hK hQ; simp only [nod_imm, Try.underlying29, e_neq, Int.reduceEq, decide_false, Bool.not_false, Try.underlying3, e_lss, e_gF, cond_true, j_one, List.getD_cons_succ, List.getD_cons_zero, e_cond, if_true]; subst hK hQ) | refine Jr.go ?_) | refine sd ?_)
    exact end2 rfl rfl (fzI _) (fzI _)
theorem okHd_ref (s : Sy) : (decide (s.top < 0) || decide (999999999999 < s.top) || decide (s.gen < 1) || decide (4 < s.gen) || decide (s.cas < 1) || decide (8 < s.cas) || decide (s.cls < 1) || decide (6 < s.cls)) = !okHd s := by
  unfold okHd inB
  rw [Bool.eq_iff_iff]
  simp only [Bool.or_eq_true, Bool.not_eq_true', Bool.and_eq_false_iff, decide_eq_true_eq, decide_eq_false_iff_not]
  omega
theorem okSz_ref (s : Sy) : (decide (500 < (s.te.length : Int)) || decide (40 < (s.pl.length : Int)) || decide ((s.se.length : Int) < 1) || decide (8 < (s.se.length : Int))) = !okSz s := by
  unfold okSz inB
  rw [Bool.eq_iff_iff]
  simp only [Bool.or_eq_true, Bool.not_eq_true', Bool.and_eq_false_iff, decide_eq_true_eq, decide_eq_false_iff_not]
  omega
theorem okPl_ref (s : Sy) (p : Pl) : (decide (p.m < 1) || decide (1000000 < p.m) || decide (p.f < 0) || decide (p.t < p.f) || decide (p.m ≤ p.t) || decide (p.c < 0) || decide (s.cls ≤ p.c)) = !okPl s p := by
  unfold okPl inB
  rw [Bool.eq_iff_iff]
  simp only [Bool.or_eq_true, Bool.not_eq_true', Bool.and_eq_false_iff, decide_eq_true_eq, decide_eq_false_iff_not]
  omega
def okS0 (s : Sy) (l : List Nu) : Bool := inB l.length 1 200 && decide ((l.getD 0 default).b = 0) && decide ((l.getD (l.length - 1) default).b ≤ s.top)
theorem c17 (s : Sy) (H : Hp) (sm : Sm s) : Ret Try.prog 17 [syV s] H (B (okSy s)) H := by
  have h1 := sm.te
  have h2 := sm.pl
  have h3 := sm.se
  refine mk17 _ rfl (Nat.le_refl _) (.inl rfl) ?_
  simp only [vc17, real]
  repeat (first | (with_reducible first | refine Ju.go ?_ | (refine Hd.go ?_; intro K Q hK hQ; simp only [nod_agg, List.map_cons, nodL_imm, nodL_arr, nd_no, List.map_nil, e_bxI, okE_agg, lv_cons, List.length_nil, Nat.zero_add, Nat.reduceAdd, all_c, ck_I, ck_arr, all_n, Bool.and_self, and_true, true_and, nod_cptr, e_fac, Nat.reduceLeDiff, List.getD_cons_zero, e_ldc, nod_imm, Try.underlying3, e_lss, e_gtr, e_gF, j_or', j_one, List.getD_cons_succ, e_cond]; subst hK hQ) | refine Jr.go ?_) | refine sd ?_)
  have e0 := okHd_ref s
  have e1 := okSz_ref s
  cases hd : okHd s
  · have : okSy s = false := by unfold okSy; rw [hd]; rfl
    rw [hd] at e0
    repeat (first | (with_reducible first | refine Ju.go ?_ | (refine Hd.go ?_; intro K Q hK hQ; simp only [e0, Bool.not_false, if_true]; subst hK hQ) | refine Jr.go ?_) | refine sd ?_)
    rw [this]
    exact end1 (fzI _)
  · rw [hd] at e0
    repeat (first | (with_reducible first | refine Ju.go ?_ | (refine Hd.go ?_; intro K Q hK hQ; simp only [e0, Bool.not_true, Bool.false_eq_true, if_false, List.getD_cons_zero, nod_cptr, e_fac, Nat.reduceAdd, lv_cons, List.length_nil, Nat.zero_add, Nat.reduceLeDiff, List.getD_cons_succ, true_and, e_ldcV, nod_arr, nd_no, e_lenA, List.length_map, nod_imm, Try.underlying3, e_gtr, e_gF, j_or', j_one, e_lss, e_cond]; subst hK hQ) | refine Jr.go ?_) | refine sd ?_)
    cases hz : okSz s
    · have : okSy s = false := by unfold okSy; rw [hd, hz]; rfl
      rw [hz] at e1
      repeat (first | (with_reducible first | refine Ju.go ?_ | (refine Hd.go ?_; intro K Q hK hQ; simp only [e1, Bool.not_false, if_true]; subst hK hQ) | refine Jr.go ?_) | refine sd ?_)
      rw [this]
      exact end1 (fzI _)
    · rw [hz] at e1
      repeat (first | (with_reducible first | refine Ju.go ?_ | (refine Hd.go ?_; intro K Q hK hQ; simp only [e1, Bool.not_true, Bool.false_eq_true, if_false]; subst hK hQ) | refine Jr.go ?_) | refine sd ?_)
      have eS : okSy s = (s.te.all (okTe s) && s.pl.all (okPl s) && s.se.all (okSe s)) := by
        unfold okSy
        rw [hd, hz]; simp only [Bool.true_and]
      refine loop_of (fun i : Nat => i ≤ s.te.length ∧ (s.te.take i).all (okTe s) = true) (fun i => [.cptr (syV s), I i]) (fun _ => H) (fun i => s.te.length - i) 0 ⟨Nat.zero_le _, rfl⟩ rfl rfl ?_
      intro i ⟨hi, hp⟩
      repeat (first | (with_reducible first | refine Ju.go ?_ | (refine Hd.go ?_; intro K Q hK hQ; simp only [List.getD_cons_zero, nod_cptr, e_fac, Nat.reduceAdd, lv_cons, List.length_nil, Nat.zero_add, Nat.reduceLeDiff, List.getD_cons_succ, true_and, e_ldcV, nod_arr, nd_no, e_lenA, List.length_map, nod_imm, Try.underlying3, e_lss, e_cond, decide_eq_true_eq]; subst hK hQ) | refine Jr.go ?_) | refine sd ?_)
      by_cases hlt : i < s.te.length
      · have d : (i : Int) < s.te.length := by omega
        have hbad : okTe s (s.te.getD i default) = false → s.te.all (okTe s) = false := all_bad s.te default (okTe s) hlt
        have hgood : okTe s (s.te.getD i default) = true → (s.te.take (i + 1)).all (okTe s) = true := fun h => by rw [all_take s.te default _ hlt, hp, h]; rfl
        have hmm := sm.fo _ (getD_memA s.te default hlt)
        repeat (first | (with_reducible first | refine Ju.go ?_ | (refine Hd.go ?_; intro K Q hK hQ; simp only [d, if_true, List.getD_cons_zero, nod_cptr, e_ldcA, lv_cons, List.length_nil, Nat.zero_add, Nat.reduceAdd, true_and, e_fac, Nat.reduceLeDiff, List.getD_cons_succ, e_ldcV, nod_arr, nd_no, nod_imm, ix_te, Int.toNat_natCast, nod_agg, List.map_cons, nodL_imm, nodL_arr, List.map_nil]; subst hK hQ) | refine Jr.go ?_) | refine sd ?_)
        generalize s.te.getD i default = t at *
        refine call_ofD (c43 s t H hmm.1 hmm.2) ?_
        by_cases ho : okTe s t = true
        · rw [ho]
          repeat (first | (with_reducible first | refine Ju.go ?_ | (refine Hd.go ?_; intro K Q hK hQ; simp only [nod_imm, e_not, Bool.not_true, List.getD_cons_zero, List.getD_cons_succ, e_cond, Bool.false_eq_true, if_false, Try.underlying3, e_add]; subst hK hQ) | refine Jr.go ?_) | refine sd ?_)
          exact ⟨i + 1, ⟨by omega, hgood ho⟩, rfl, rfl, by omega⟩
        · rw [Bool.eq_false_iff.2 ho]
          repeat (first | (with_reducible first | refine Ju.go ?_ | (refine Hd.go ?_; intro K Q hK hQ; simp only [nod_imm, e_not, Bool.not_false, List.getD_cons_zero, List.getD_cons_succ, e_cond, if_true]; subst hK hQ) | refine Jr.go ?_) | refine sd ?_)
          rw [eS, hbad (Bool.eq_false_iff.2 ho)]
          exact end1 (fzI _)
      · have d : ¬ (i : Int) < s.te.length := by omega
        repeat (first | (with_reducible first | refine Ju.go ?_ | (refine Hd.go ?_; intro K Q hK hQ; simp only [d, if_false]; subst hK hQ) | refine Jr.go ?_) | refine sd ?_)
        rw [List.take_of_length_le (by omega)] at hp
        rw [hp, Bool.true_and] at eS
        refine loop_of (fun i : Nat => i ≤ s.pl.length ∧ (s.pl.take i).all (okPl s) = true) (fun i => [.cptr (syV s), I i]) (fun _ => H) (fun i => s.pl.length - i) 0 ⟨Nat.zero_le _, rfl⟩ rfl rfl ?_
        clear hi hp hlt d
        intro i ⟨hi, hp⟩
        repeat (first | (with_reducible first | refine Ju.go ?_ | (refine Hd.go ?_; intro K Q hK hQ; simp only [List.getD_cons_zero, nod_cptr, e_fac, Nat.reduceAdd, lv_cons, List.length_nil, Nat.zero_add, Nat.reduceLeDiff, List.getD_cons_succ, true_and, e_ldcV, nod_arr, nd_no, e_lenA, List.length_map, nod_imm, Try.underlying3, e_lss, e_cond, decide_eq_true_eq]; subst hK hQ) | refine Jr.go ?_) | refine sd ?_)
        by_cases hlt : i < s.pl.length
        · have d : (i : Int) < s.pl.length := by omega
          have hbad : okPl s (s.pl.getD i default) = false → s.pl.all (okPl s) = false := all_bad s.pl default (okPl s) hlt
          have hgood : okPl s (s.pl.getD i default) = true → (s.pl.take (i + 1)).all (okPl s) = true := fun h => by rw [all_take s.pl default _ hlt, hp, h]; rfl
          repeat (first | (with_reducible first | refine Ju.go ?_ | (refine Hd.go ?_; intro K Q hK hQ; simp only [d, if_true, List.getD_cons_zero, nod_cptr, e_fac, Nat.reduceAdd, lv_cons, List.length_nil, Nat.zero_add, Nat.reduceLeDiff, List.getD_cons_succ, true_and, e_ldcV, nod_arr, nd_no, nod_imm, ix_pl, Int.toNat_natCast, e_ldcA, nod_agg, List.map_cons, nodL_imm, List.map_nil, e_bxI, okE_agg, all_c, ck_I, all_n, Bool.and_self, and_true, e_ldc, Try.underlying3, e_lss, e_gtr, e_gF, j_or', j_one, e_geq, e_cond]; subst hK hQ) | refine Jr.go ?_) | refine sd ?_)
          generalize s.pl.getD i default = p at *
          have e := okPl_ref s p
          by_cases ho : okPl s p = true
          · rw [ho] at e
            repeat (first | (with_reducible first | refine Ju.go ?_ | (refine Hd.go ?_; intro K Q hK hQ; simp only [e, Bool.not_true, Bool.false_eq_true, if_false, List.getD_cons_succ, List.getD_cons_zero, nod_imm, Try.underlying3, e_add]; subst hK hQ) | refine Jr.go ?_) | refine sd ?_)
            exact ⟨i + 1, ⟨by omega, hgood ho⟩, rfl, rfl, by omega⟩
          · rw [Bool.eq_false_iff.2 ho] at e
            repeat (first | (with_reducible first | refine Ju.go ?_ | (refine Hd.go ?_; intro K Q hK hQ; simp only [e, Bool.not_false, if_true]; subst hK hQ) | refine Jr.go ?_) | refine sd ?_)
            rw [eS, hbad (Bool.eq_false_iff.2 ho)]
            exact end1 (fzI _)
        · have d : ¬ (i : Int) < s.pl.length := by omega
          repeat (first | (with_reducible first | refine Ju.go ?_ | (refine Hd.go ?_; intro K Q hK hQ; simp only [d, if_false]; subst hK hQ) | refine Jr.go ?_) | refine sd ?_)
          rw [List.take_of_length_le (by omega)] at hp
          rw [hp, Bool.true_and] at eS
          rw [eS]
          refine loop_of (fun i : Nat => i ≤ s.se.length ∧ (s.se.take i).all (okSe s) = true) (fun i => [.cptr (syV s), I i]) (fun _ => H) (fun i => s.se.length - i) 0 ⟨Nat.zero_le _, rfl⟩ rfl rfl ?_
          clear hi hp hlt d
          intro i ⟨hi, hp⟩
          repeat (first | (with_reducible first | refine Ju.go ?_ | (refine Hd.go ?_; intro K Q hK hQ; simp only [List.getD_cons_zero, nod_cptr, e_fac, Nat.reduceAdd, lv_cons, List.length_nil, Nat.zero_add, Nat.reduceLeDiff, List.getD_cons_succ, true_and, e_ldcV, nod_arr, nd_no, e_lenA, List.length_map, nod_imm, Try.underlying3, e_lss, e_cond, decide_eq_true_eq]; subst hK hQ) | refine Jr.go ?_) | refine sd ?_)
          by_cases hlt : i < s.se.length
          · have d : (i : Int) < s.se.length := by omega
            have hbad : okSe s (s.se.getD i []) = false → s.se.all (okSe s) = false := all_bad s.se [] (okSe s) hlt
            have hgood : okSe s (s.se.getD i []) = true → (s.se.take (i + 1)).all (okSe s) = true := fun h => by rw [all_take s.se [] _ hlt, hp, h]; rfl
            have hmm := (sm.nu _ (getD_memA s.se [] hlt)).1
            repeat (first | (with_reducible first | refine Ju.go ?_ | (refine Hd.go ?_; intro K Q hK hQ; simp only [d, if_true, List.getD_cons_zero, nod_cptr, e_fac, Nat.reduceAdd, lv_cons, List.length_nil, Nat.zero_add, Nat.reduceLeDiff, List.getD_cons_succ, true_and, e_ldcV, nod_arr, nd_no, nod_imm, ix_se, Int.toNat_natCast, e_lenA, List.length_map, Try.underlying3, e_lss, e_gtr, e_gF, j_or', j_one]; subst hK hQ) | refine Jr.go ?_) | refine sd ?_)
            generalize s.se.getD i [] = l at *
            have eO : okSe s l = (okS0 s l && (List.range l.length).all (okRi s l)) := rfl
            have eL : ((l.length : Int) - 1).toNat = l.length - 1 := by omega
            have e : (decide ((l.length : Int) < 1) || decide (200 < (l.length : Int)) || !decide ((l.getD 0 default).b = 0) || decide (s.top < (l.getD (l.length - 1) default).b)) = !okS0 s l := by
              unfold okS0 inB
              rw [Bool.eq_iff_iff]
              simp only [Bool.or_eq_true, Bool.not_eq_true', Bool.and_eq_false_iff, decide_eq_true_eq, decide_eq_false_iff_not]
              omega
            have z0 : Int.toNat 0 = 0 := rfl
            by_cases hq : (decide ((l.length : Int) < 1) || decide (200 < (l.length : Int))) = true
            · have ho : okSe s l = false := by
                rw [hq, Bool.true_or, Bool.true_or] at e
                rw [eO, show okS0 s l = false by rw [← Bool.not_eq_true', ← e]]; rfl
              repeat (first | (with_reducible first | refine Ju.go ?_ | (refine Hd.go ?_; intro K Q hK hQ; simp only [hq, cond_true, nod_imm, nod_arr, nd_no, Try.underlying3, List.getD_cons_zero, nod_cptr, e_fac, Nat.zero_add, lv_cons, List.length_nil, Nat.reduceAdd, Nat.reduceLeDiff, e_ldc, true_and, e_lenA, List.length_map, e_sub, ix_nu, eL, e_gtr, e_gF, j_one, List.getD_cons_succ, e_cond, if_true]; subst hK hQ) | refine Jr.go ?_) | refine sd ?_)
              rw [hbad ho]
              exact end1 (fzI _)
            · have hq' := hq
              rw [Bool.or_eq_true, decide_eq_true_eq, decide_eq_true_eq] at hq'
              have d1 : (0 : Int) < l.length := by omega
              have d2 : (0 : Int) ≤ (l.length : Int) - 1 := by omega
              have d3 : (l.length : Int) - 1 < l.length := by omega
              rw [Bool.eq_false_iff.2 hq, Bool.false_or] at e
              repeat (first | (with_reducible first | refine Ju.go ?_ | (refine Hd.go ?_; intro K Q hK hQ; simp only [hq, cond_false, ix_nu, d1, z0, true_and, nod_cptr, e_fac, Nat.zero_add, lv_cons, List.length_nil, Nat.reduceAdd, Nat.reduceLeDiff, List.getD_cons_zero, e_ldc, nod_imm, e_neq, nod_arr, nd_no, Try.underlying3, e_lenA, List.length_map, e_sub, d2, d3, eL, e_gtr, e_gF, j_fl, j_or', j_side, j_one, List.getD_cons_succ, e_cond]; subst hK hQ) | refine Jr.go ?_) | refine sd ?_)
              cases hs : okS0 s l
              · rw [hs] at e
                repeat (first | (with_reducible first | refine Ju.go ?_ | (refine Hd.go ?_; intro K Q hK hQ; simp only [e, Bool.not_false, if_true]; subst hK hQ) | refine Jr.go ?_) | refine sd ?_)
                rw [hbad (by rw [eO, hs]; rfl)]
                exact end1 (fzI _)
              · rw [hs, Bool.true_and] at eO
                rw [hs] at e
                repeat (first | (with_reducible first | refine Ju.go ?_ | (refine Hd.go ?_; intro K Q hK hQ; simp only [e, Bool.not_true, Bool.false_eq_true, if_false]; subst hK hQ) | refine Jr.go ?_) | refine sd ?_)
                have hb0 : (l.getD 0 default).b = 0 := by
                  unfold okS0 at hs
                  simp only [Bool.and_eq_true, decide_eq_true_eq] at hs
                  exact hs.1.2
                have hbad' : ∀ k, k < l.length → okRi s l k = false → s.se.all (okSe s) = false := fun k hk h => hbad (by rw [eO, range_bad hk h])
                refine loop_of (fun k : Nat => k ≤ l.length ∧ (List.range k).all (okRi s l) = true ∧ (0 < k → 0 ≤ (l.getD (k - 1) default).b)) (fun k => [.cptr (syV s), I i, seV l, I k]) (fun _ => H) (fun k => l.length - k) 0 ⟨Nat.zero_le _, rfl, fun h => absurd h (Nat.lt_irrefl 0)⟩ rfl rfl ?_
                intro k ⟨hk, hr, hz⟩
                repeat (first | (with_reducible first | refine Ju.go ?_ | (refine Hd.go ?_; intro K Q hK hQ; simp only [List.getD_cons_succ, List.getD_cons_zero, nod_arr, nd_no, e_lenA, List.length_map, nod_imm, Try.underlying3, e_lss, e_cond, decide_eq_true_eq]; subst hK hQ) | refine Jr.go ?_) | refine sd ?_)
                by_cases hkt : k < l.length
                · have d : (k : Int) < l.length := by omega
                  have eI : ((k : Int) - 1).toNat = k - 1 := by omega
                  have hb1 := hbad' k hkt
                  have hg1 : okRi s l k = true → (List.range (k + 1)).all (okRi s l) = true := fun h => by rw [range_succ_all, hr, h]; rfl
                  have eR : okRi s l k = ((decide (k = 0) || decide ((l.getD (k - 1) default).b < (l.getD k default).b)) && okR s (l.getD k default)) := rfl
                  have hk0 : k = 0 → (l.getD k default).b = 0 := fun h => by rw [h]; exact hb0
                  have hnx : 0 < k + 1 → 0 ≤ (l.getD k default).b → 0 ≤ (l.getD (k + 1 - 1) default).b := fun _ h => h
                  repeat (first | (with_reducible first | refine Ju.go ?_ | (refine Hd.go ?_; intro K Q hK hQ; simp only [d, if_true, List.getD_cons_succ, List.getD_cons_zero, nod_imm, Try.underlying3, e_gtr, nod_arr, nd_no, e_sub, ix_nu, eI, nod_cptr, e_fac, Nat.zero_add, lv_cons, List.length_nil, Nat.reduceAdd, Nat.reduceLeDiff, e_ldc, true_and, Int.toNat_natCast, e_leq, e_gT, j_tl, decide_eq_true_eq, j_and', j_side, j_one, e_ldcA, nod_agg, List.map_cons, nodL_imm, nodL_arr, List.map_nil, e_gF, j_fl]; subst hK hQ) | refine Jr.go ?_) | refine sd ?_)
                  generalize l.getD k default = r at *
                  generalize (l.getD (k - 1) default).b = pb at *
                  have eC : (decide (0 < (k : Int)) && decide (r.b ≤ pb)) = !(decide (k = 0) || decide (pb < r.b)) := by
                    rw [Bool.eq_iff_iff]
                    simp only [Bool.and_eq_true, Bool.not_eq_true', Bool.or_eq_false_iff, decide_eq_true_eq, decide_eq_false_iff_not]
                    omega
                  cases hc : (decide (k = 0) || decide (pb < r.b))
                  · rw [hc] at eC eR
                    repeat (first | (with_reducible first | refine Ju.go ?_ | (refine Hd.go ?_; intro K Q hK hQ; simp only [eC, Bool.not_false, cond_true, List.getD_cons_zero, List.getD_cons_succ, nod_imm, e_cond, if_true]; subst hK hQ) | refine Jr.go ?_) | refine sd ?_)
                    rw [hb1 (by rw [eR]; rfl)]
                    exact end1 (fzI _)
                  · rw [hc] at eC
                    rw [hc, Bool.true_and] at eR
                    have hb : 0 ≤ r.b := by
                      rw [Bool.or_eq_true, decide_eq_true_eq, decide_eq_true_eq] at hc
                      by_cases k0 : k = 0
                      · rw [hk0 k0]; exact Int.le_refl 0
                      · have := hz (by omega)
                        omega
                    repeat (first | (with_reducible first | refine Ju.go ?_ | (refine Hd.go ?_; intro K Q hK hQ; simp only [eC, Bool.not_true, cond_false]; subst hK hQ) | refine Jr.go ?_) | refine sd ?_)
                    refine call_ofD (c44 s r H sm hb) ?_
                    cases ho : okR s r
                    · repeat (first | (with_reducible first | refine Ju.go ?_ | (refine Hd.go ?_; intro K Q hK hQ; simp only [nod_imm, e_not, Bool.not_false, List.getD_cons_zero, List.getD_cons_succ, e_cond, if_true]; subst hK hQ) | refine Jr.go ?_) | refine sd ?_)
                      rw [hb1 (by rw [eR, ho])]
                      exact end1 (fzI _)
                    · repeat (first | (with_reducible first | refine Ju.go ?_ | (refine Hd.go ?_; intro K Q hK hQ; simp only [nod_imm, e_not, Bool.not_true, List.getD_cons_zero, List.getD_cons_succ, e_cond, Bool.false_eq_true, if_false, Try.underlying3, e_add]; subst hK hQ) | refine Jr.go ?_) | refine sd ?_)
                      exact ⟨k + 1, ⟨by omega, hg1 (by rw [eR, ho]), fun h => hnx h hb⟩, rfl, rfl, by omega⟩
                · have d : ¬ (k : Int) < l.length := by omega
                  repeat (first | (with_reducible first | refine Ju.go ?_ | (refine Hd.go ?_; intro K Q hK hQ; simp only [d, if_false, List.getD_cons_succ, List.getD_cons_zero, nod_imm, Try.underlying3, e_add]; subst hK hQ) | refine Jr.go ?_) | refine sd ?_)
                  rw [show k = l.length by omega] at hr
                  exact ⟨i + 1, ⟨by omega, hgood (by rw [eO, hr])⟩, rfl, rfl, by omega⟩
          · have d : ¬ (i : Int) < s.se.length := by omega
            repeat (first | (with_reducible first | refine Ju.go ?_ | (refine Hd.go ?_; intro K Q hK hQ; simp only [d, if_false]; subst hK hQ) | refine Jr.go ?_) | refine sd ?_)
            rw [List.take_of_length_le (by omega)] at hp
            rw [hp]
            exact end1 (fzI _)
end Go.Proofs.Ytgodfjbmblghnaa

