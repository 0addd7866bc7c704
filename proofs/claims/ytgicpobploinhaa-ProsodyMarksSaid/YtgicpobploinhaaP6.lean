/- The machinery of the proof, part 6: an abstract machine over list values, proved sound against the model, and the contracts of the functions that the law reaches. No condition. -/
import Derived.Test.YtgicpobploinhaaP5
import Derived.Test.YtgicpobploinhaaProg
set_option linter.unusedVariables false
set_option maxRecDepth 20000
set_option maxHeartbeats 4000000
namespace Go.Proofs.Ytgicpobploinhaa
open Go Go.Ab Go.Proofs
def an45 : An := { imm := [3, 5, 8, 10], jn := [(2, [1, 3, 5, 6, 7, 30]), (10, [3, 5, 8, 9, 10, 11, 12]), (12, [3, 5, 8, 9, 10, 12]), (13, [3, 5, 8, 9, 10])], lp := [], loud := [], ord := [(13, [(0, 15)], [[1, 2, 3, 4, 5, 6, 7, 8, 9, 10, 11, 12, 13, 14, 15, 0, 16, 17, 18, 19], [0, 1, 2, 3, 4, 5, 6, 7, 8, 9, 10, 11, 12, 13, 14, 15, 16, 17, 18, 19]])] }
def vc45 (C : Cb) (a0 a1 a2 : V) (H : Hp) (R : List V → Hp → Prop) : Prop :=
 C.aBx true 1 a0.nod H fun v1 H2 =>
 C.aBx true 1 a2.nod H2 fun v3 H4 =>
 Jn (fun l5 H6 =>
 aCond (l5.getD 5 .junk).nod (
 R [(V.arr [] .full), (I 2)] H6) (
 C.aLd 1 false false (l5.getD 1 .junk).nod H6 fun v8 H9 =>
 C.aBd [(V.arr [] .full), (V.arr [] .full)] [(0, 1, v8.nod), (1, 1, (l5.getD 0 .junk).nod.nod.nod)] fun v10 =>
 C.aBx true 2 (own0 v10 v8).nod H9 fun v11 H12 =>
 C.aBx false 1 (V.arr [] .full) H12 fun v13 H14 =>
 C.aLd 2 true false v11.nod H14 fun v15 H16 =>
 C.callE 75 [v15.nod, (I 1)] H16 fun v17 H18 =>
 C.range v17.nod 1 H18 (fun l19 H20 (D21 : Hp → (Hp → Prop) → Prop) (K22 : Bool → Hp → Prop) =>
 C.aBx true 2 (l19.getD 0 .junk).nod H20 fun v26 H27 =>
 D21 H27 fun H23 =>
 Jn (fun l28 H29 =>
 (C.aFA 1 1 false (l28.getD 4 .junk).nod fun v31 =>
 C.aLd 1 false false v31.nod H29 fun v32 H33 =>
 C.aBin (Try.prog.underlying 3) .sub v32.nod (I 1) fun v34 =>
 C.aLd 1 false false (l28.getD 0 .junk).nod H33 fun v35 H36 =>
 C.aFA 1 1 false (l28.getD 4 .junk).nod fun v37 =>
 C.aLd 1 false false v37.nod H36 fun v38 H39 =>
 C.aBin (Try.prog.underlying 3) .sub v38.nod (I 1) fun v40 =>
 C.aIx 5 v35.nod v40.nod fun v41 =>
 C.aFA 0 1 false v41.nod fun v42 =>
 C.aLd 1 false false v42.nod H39 fun v43 H44 =>
 C.aBin (Try.prog.underlying 3) .sub v43.nod (I 1) fun v45 =>
 C.aLd 2 true false (l28.getD 2 .junk).nod H44 fun v46 H47 =>
 C.aLd 2 true false (l28.getD 4 .junk).nod H47 fun v48 H49 =>
 C.aLd 1 false false (l28.getD 1 .junk).nod H49 fun v50 H51 =>
 C.calm 77 [v46.nod, v48.nod, v50.nod] H51 fun v52 =>
 C.aLd 1 false true (l28.getD 3 .junk).nod H51 fun v53 H54 =>
 C.aBd [(I 0), (I 0), (I 0)] [(0, 1, v34.nod), (1, 1, v45.nod.nod), (2, 1, v52.nod.nod)] fun v55 =>
 C.aBS 3 1 (V.agg [(I 0), (I 0), (I 0)]) [(0, (own0 v55 v34).nod)] fun v56 =>
 C.aApp 3 24 v53 v56.nod fun v57 =>
 C.aSt 1 (l28.getD 3 .junk).nod v57 H54 fun v58 H59 =>
 K22 false H59) ∧ (C.aLd 1 false true (l28.getD 3 .junk).nod H29 fun v60 H61 =>
 C.aFA 1 1 false (l28.getD 4 .junk).nod fun v62 =>
 C.aLd 1 false false v62.nod H61 fun v63 H64 =>
 C.aBin (Try.prog.underlying 3) .sub v63.nod (I 1) fun v65 =>
 C.aLd 1 false false (l28.getD 0 .junk).nod H64 fun v66 H67 =>
 C.aFA 1 1 false (l28.getD 4 .junk).nod fun v68 =>
 C.aLd 1 false false v68.nod H67 fun v69 H70 =>
 C.aBin (Try.prog.underlying 3) .sub v69.nod (I 1) fun v71 =>
 C.aIx 5 v66.nod v71.nod fun v72 =>
 C.aFA 0 1 false v72.nod fun v73 =>
 C.aLd 1 false false v73.nod H70 fun v74 H75 =>
 C.aBin (Try.prog.underlying 3) .sub v74.nod (I 1) fun v76 =>
 C.aLd 2 true false (l28.getD 2 .junk).nod H75 fun v77 H78 =>
 C.aLd 2 true false (l28.getD 4 .junk).nod H78 fun v79 H80 =>
 C.aLd 1 false false (l28.getD 1 .junk).nod H80 fun v81 H82 =>
 C.calm 77 [v77.nod, v79.nod, v81.nod] H82 fun v83 =>
 C.aBd [(I 0), (I 0), (I 0)] [(0, 1, v65.nod), (1, 1, v76.nod.nod), (2, 1, v83.nod.nod)] fun v84 =>
 C.aBS 3 1 (V.agg [(I 0), (I 0), (I 0)]) [(0, (own0 v84 v65).nod)] fun v85 =>
 C.aApp 3 24 v60 v85.nod fun v86 =>
 C.aSt 1 (l28.getD 3 .junk).nod v86 H82 fun v87 H88 =>
 K22 false H88))
 (fun R30 =>
 C.aLd 2 true false v11.nod.nod H23 fun v89 H90 =>
 C.aLd 2 true false v26.nod H90 fun v91 H92 =>
 C.callE 76 [v89.nod, v91.nod] H92 fun v93 H94 =>
 C.aBin (Try.prog.underlying 3) .geq v93.nod.nod (I 0) fun v95 =>
 aCond v95.nod (
 Jn (fun l96 H97 =>
 Jn (fun l99 H100 =>
 C.aLd 1 false true (l99.getD 3 .junk).nod H100 fun v102 H103 =>
 C.aLd 3 true false (l99.getD 5 .junk).nod H103 fun v104 H105 =>
 C.aBS 3 1 (V.agg [(I 0), (I 0), (I 0)]) [(0, v104.nod)] fun v106 =>
 C.aApp 3 24 v102 v106.nod fun v107 =>
 C.aSt 1 (l99.getD 3 .junk).nod v107 H105 fun v108 H109 =>
 R30 [(l99.getD 0 .junk), (l99.getD 1 .junk), (l99.getD 2 .junk), (l99.getD 3 .junk), (l99.getD 4 .junk)] H109)
 (fun R101 =>
 C.aLd 1 false false (l96.getD 0 .junk).nod H97 fun v110 H111 =>
 C.aIx 5 v110.nod (l96.getD 5 .junk).nod.nod fun v112 =>
 C.aFA 3 1 false v112.nod fun v113 =>
 C.aLd 1 false false v113.nod H111 fun v114 H115 =>
 aCond v114.nod (
 C.aFA 2 1 false (l96.getD 6 .junk).nod fun v116 =>
 C.aSt 1 v116.nod (I 2) H115 fun v117 H118 =>
 R101 [(l96.getD 0 .junk), (l96.getD 1 .junk), (l96.getD 2 .junk), (l96.getD 3 .junk), (l96.getD 4 .junk), (l96.getD 6 .junk)] H118) (
 R101 [(l96.getD 0 .junk), (l96.getD 1 .junk), (l96.getD 2 .junk), (l96.getD 3 .junk), (l96.getD 4 .junk), (l96.getD 6 .junk)] H115)))
 (fun R98 =>
 C.aLd 1 false false (l5.getD 1 .junk).nod.nod H94 fun v119 H120 =>
 C.aIx 5 v119.nod v93.nod.nod fun v121 =>
 C.aFA 1 1 false v121.nod fun v122 =>
 C.aLd 1 false false v122.nod H120 fun v123 H124 =>
 C.aBd [(I 0), (I 0), (I 0)] [(0, 1, v93.nod.nod), (1, 1, v123.nod.nod), (2, 1, (I 1))] fun v125 =>
 C.aBx false 3 (V.agg [(I 0), (I 0), (I 0)]) H124 fun v126 H127 =>
 C.aSt 3 v126.nod (own0 v125 v93.nod) H127 fun v128 H129 =>
 R98 [(l5.getD 1 .junk).nod, (l5.getD 2 .junk).nod, v11.nod, v13.nod, v26, v93, v126] H129)) (
 R30 [(l5.getD 1 .junk).nod, (l5.getD 2 .junk).nod, v11.nod, v13.nod, v26] H94))) (fun H24 =>
 C.aLd 1 false false v13.nod.nod H24 fun v130 H131 =>
 R [v130, (I 0)] H131) (fun H25 =>
 R [(l5.getD 3 .junk).nod, (l5.getD 4 .junk).nod] H25)))
 (fun R7 =>
 C.aLd 1 false false v1.nod H4 fun v132 H133 =>
 C.callE 59 [v132.nod] H133 fun v134 H135 =>
 C.aUn .not v134.nod fun v136 =>
 Jv (fun v137 H138 =>
 Jv (fun v146 H147 =>
 Jv (fun v152 H153 =>
 R7 [a1, v1, v3, (V.arr [] .full), (I 0), v152] H153)
 (fun R154 =>
 aG v146.nod false (
 C.aLd 1 false false v3.nod H147 fun v155 H156 =>
 C.aBin (Try.prog.underlying 85) .gtr v155.nod (I 4) fun v157 =>
 R154 v157.nod H156) (
 R154 (B true) H147)))
 (fun R148 =>
 aG v137.nod false (
 C.aLd 1 false false v3.nod H138 fun v149 H150 =>
 C.aBin (Try.prog.underlying 85) .lss v149.nod (I 1) fun v151 =>
 R148 v151.nod H150) (
 R148 (B true) H138)))
 (fun R139 =>
 aG v136.nod false (
 C.aLd 1 false false v1.nod H135 fun v140 H141 =>
 C.aLen v140.nod fun v142 =>
 C.callE 73 [a1.nod.nod, v142.nod] H141 fun v143 H144 =>
 C.aUn .not v143.nod fun v145 =>
 R139 v145.nod H144) (
 R139 (B true) H135)))
theorem wf45 : (Nat.ble 3 Try.f45.ntmps && wfC an45 Try.f45.ntmps (Try.f45.body.getD .skip)) = true := by kernel_rfl
theorem tie45 (C : Cb) (a0 a1 a2 : V) (H : Hp) (R : List V → Hp → Prop) : wpG Try.prog C an45 (Try.f45.body.getD .skip) (argF [a0, a1, a2]) H (retG Try.prog C Try.f45 R) (fun _ _ _ => False) (retG Try.prog C Try.f45 R) = vc45 C a0 a1 a2 H R := by kernel_rfl
theorem mk45 (a0 a1 a2 : V) {H : Hp} {v : V} {H1 : Hp} (hd : v.Nd) (hn : H.length ≤ H1.length) (hb : H1 = H ∨ ∀ (b : Nat) (blk : Blk), H1[b]? = some blk → H[b]? = some blk ∨ BelB H1.length blk) (h : vc45 (real Try.prog) a0 a1 a2 H (retF v H1)) : Ret Try.prog 45 [a0, a1, a2] H v H1 :=
 ret_mk (an := an45) hm Try.call45 Try.func45 rfl wf45 hd hn hb (Eq.mpr (tie45 (real Try.prog) a0 a1 a2 H (retF v H1)) h)
def an46 : An := { imm := [], jn := [(5, [0, 1, 2, 7, 8, 9]), (7, [0, 1, 2, 7, 8, 9, 10]), (11, [0, 1, 2, 7, 8, 9, 10, 11]), (12, [0, 1, 2, 7, 8, 9]), (15, [0, 1, 2, 7, 8, 9, 12, 13, 60]), (17, [0, 1, 2, 7, 8, 9, 12, 13, 74]), (23, [0, 1, 2, 7, 8, 9, 12, 13, 93]), (24, [0, 1, 2, 7, 8, 9, 12, 13])], lp := [(4, [0, 1, 2, 7, 8, 9])], loud := [35], ord := [] }
def vc46 (C : Cb) (a0 a1 a2 : V) (H : Hp) (R : List V → Hp → Prop) : Prop :=
 C.aLen a0.nod.nod fun v1 =>
 C.callE 47 [a1.nod.nod, v1.nod, (I 1)] H fun v2 H3 =>
 LoopA (fun l4 H5 K6 =>
 C.aLen (l4.getD 4 .junk).nod.nod fun v7 =>
 C.aBin (Try.prog.underlying 3) .lss (l4.getD 5 .junk).nod.nod v7.nod fun v8 =>
 aCond v8.nod (
 Jn (fun l9 H10 =>
 C.aBin (Try.prog.underlying 3) .add (l9.getD 5 .junk).nod.nod (I 1) fun v12 =>
 K6 [(l9.getD 0 .junk), (l9.getD 1 .junk), (l9.getD 2 .junk), (l9.getD 3 .junk), (l9.getD 4 .junk), v12] H10)
 (fun R11 =>
 Jn (fun l13 H14 =>
 C.aIx 2 (l13.getD 4 .junk).nod.nod (l13.getD 5 .junk).nod.nod fun v16 =>
 C.aIxA 2 1 false v16.nod (I 1) fun v17 =>
 C.aLd 1 false false v17.nod H14 fun v18 H19 =>
 C.aBin (Try.prog.underlying 3) .sub v18.nod (I 1) fun v20 =>
 Jn (fun l21 H22 =>
 C.aIx 5 (l21.getD 0 .junk).nod.nod (l21.getD 6 .junk).nod.nod fun v24 =>
 C.aFA 0 1 false v24.nod fun v25 =>
 C.aLd 1 false false v25.nod H22 fun v26 H27 =>
 C.aBin (Try.prog.underlying 3) .sub v26.nod (I 1) fun v28 =>
 C.aBd [(I 0), (I 0), (I 0)] [(0, 1, (l21.getD 6 .junk).nod.nod), (1, 1, v28.nod.nod), (2, 1, (l21.getD 7 .junk).nod.nod.nod)] fun v29 =>
 C.aBS 3 1 (V.agg [(I 0), (I 0), (I 0)]) [(0, (own0 v29 (l21.getD 6 .junk).nod).nod)] fun v30 =>
 C.aApp 3 24 (l21.getD 3 .junk) v30.nod fun v31 =>
 R11 [(l21.getD 0 .junk), (l21.getD 1 .junk), (l21.getD 2 .junk), v31, (l21.getD 4 .junk), (l21.getD 5 .junk)] H27)
 (fun R23 =>
 Jn (fun l32 H33 =>
 aCond (l32.getD 8 .junk).nod (
 R23 [(l32.getD 0 .junk), (l32.getD 1 .junk), (l32.getD 2 .junk), (l32.getD 3 .junk), (l32.getD 4 .junk), (l32.getD 5 .junk), (l32.getD 6 .junk), (I 4)] H33) (
 Jn (fun l35 H36 =>
 aCond (l35.getD 8 .junk).nod (
 R23 [(l35.getD 0 .junk), (l35.getD 1 .junk), (l35.getD 2 .junk), (l35.getD 3 .junk), (l35.getD 4 .junk), (l35.getD 5 .junk), (l35.getD 6 .junk), (I 3)] H36) (
 C.aLen (l35.getD 4 .junk).nod.nod fun v38 =>
 C.aBin (Try.prog.underlying 3) .sub v38.nod (I 1) fun v39 =>
 C.aBin (Try.prog.underlying 3) .eql (l35.getD 5 .junk).nod.nod v39.nod fun v40 =>
 aCond v40.nod (
 R23 [(l35.getD 0 .junk), (l35.getD 1 .junk), (l35.getD 2 .junk), (l35.getD 3 .junk), (l35.getD 4 .junk), (l35.getD 5 .junk), (l35.getD 6 .junk), (I 5)] H36) (
 C.aBin (Try.prog.underlying 85) .eql (l35.getD 2 .junk).nod.nod (I 3) fun v41 =>
 aCond v41.nod (
 R23 [(l35.getD 0 .junk), (l35.getD 1 .junk), (l35.getD 2 .junk), (l35.getD 3 .junk), (l35.getD 4 .junk), (l35.getD 5 .junk), (l35.getD 6 .junk), (I 3)] H36) (
 Jn (fun l42 H43 =>
 aCond (l42.getD 8 .junk).nod (
 R23 [(l42.getD 0 .junk), (l42.getD 1 .junk), (l42.getD 2 .junk), (l42.getD 3 .junk), (l42.getD 4 .junk), (l42.getD 5 .junk), (l42.getD 6 .junk), (I 4)] H43) (
 R23 [(l42.getD 0 .junk), (l42.getD 1 .junk), (l42.getD 2 .junk), (l42.getD 3 .junk), (l42.getD 4 .junk), (l42.getD 5 .junk), (l42.getD 6 .junk), (l42.getD 7 .junk)] H43))
 (fun R44 =>
 C.aIx 1 (l35.getD 1 .junk).nod.nod (l35.getD 6 .junk).nod.nod fun v45 =>
 C.aLd 1 false false v45.nod H36 fun v46 H47 =>
 C.aBin (Try.prog.underlying 3) .eql v46.nod (I 2) fun v48 =>
 R44 [(l35.getD 0 .junk), (l35.getD 1 .junk), (l35.getD 2 .junk), (l35.getD 3 .junk), (l35.getD 4 .junk), (l35.getD 5 .junk), (l35.getD 6 .junk), (l35.getD 7 .junk), v48] H47)))))
 (fun R37 =>
 C.aLen (l32.getD 4 .junk).nod.nod fun v49 =>
 C.aBin (Try.prog.underlying 3) .sub v49.nod (I 1) fun v50 =>
 C.aBin (Try.prog.underlying 3) .eql (l32.getD 5 .junk).nod.nod v50.nod fun v51 =>
 Jv (fun v52 H53 =>
 R37 [(l32.getD 0 .junk), (l32.getD 1 .junk), (l32.getD 2 .junk), (l32.getD 3 .junk), (l32.getD 4 .junk), (l32.getD 5 .junk), (l32.getD 6 .junk), (l32.getD 7 .junk), v52] H53)
 (fun R54 =>
 aG v51.nod true (
 C.aBin (Try.prog.underlying 85) .eql (l32.getD 2 .junk).nod.nod (I 2) fun v55 =>
 R54 v55.nod H33) (
 R54 (B false) H33)))))
 (fun R34 =>
 C.aLen (l13.getD 4 .junk).nod.nod fun v56 =>
 C.aBin (Try.prog.underlying 3) .sub v56.nod (I 1) fun v57 =>
 C.aBin (Try.prog.underlying 3) .eql (l13.getD 5 .junk).nod.nod v57.nod fun v58 =>
 Jv (fun v59 H60 =>
 R34 [(l13.getD 0 .junk), (l13.getD 1 .junk), (l13.getD 2 .junk), (l13.getD 3 .junk), (l13.getD 4 .junk), (l13.getD 5 .junk), v20, (I 5), v59] H60)
 (fun R61 =>
 aG v58.nod true (
 C.aBin (Try.prog.underlying 85) .eql (l13.getD 2 .junk).nod.nod (I 1) fun v62 =>
 aG v62.nod false (
 C.aBin (Try.prog.underlying 85) .eql (l13.getD 2 .junk).nod.nod (I 3) fun v63 =>
 R61 v63.nod.nod H19) (
 R61 (B true) H19)) (
 UD = UD ∧
 UD = UD ∧
 R61 (B false) H19)))))
 (fun R15 =>
 Jn (fun l64 H65 =>
 C.aBin (Try.prog.underlying 3) .geq (l64.getD 6 .junk).nod.nod (I 0) fun v67 =>
 aCond v67.nod (
 Jn (fun l68 H69 =>
 C.aIx 5 (l68.getD 0 .junk).nod.nod (l68.getD 6 .junk).nod.nod fun v71 =>
 C.aFA 1 1 false v71.nod fun v72 =>
 C.aLd 1 false false v72.nod H69 fun v73 H74 =>
 C.aBd [(I 0), (I 0), (I 0)] [(0, 1, (l68.getD 6 .junk).nod.nod), (1, 1, v73.nod.nod), (2, 1, (l68.getD 7 .junk).nod.nod.nod)] fun v75 =>
 C.aBS 3 1 (V.agg [(I 0), (I 0), (I 0)]) [(0, (own0 v75 (l68.getD 6 .junk).nod).nod)] fun v76 =>
 C.aApp 3 24 (l68.getD 3 .junk) v76.nod fun v77 =>
 R15 [(l68.getD 0 .junk), (l68.getD 1 .junk), (l68.getD 2 .junk), v77, (l68.getD 4 .junk), (l68.getD 5 .junk)] H74)
 (fun R70 =>
 C.aIx 5 (l64.getD 0 .junk).nod.nod (l64.getD 6 .junk).nod.nod fun v78 =>
 C.aFA 3 1 false v78.nod fun v79 =>
 C.aLd 1 false false v79.nod H65 fun v80 H81 =>
 aCond v80.nod (
 R70 [(l64.getD 0 .junk), (l64.getD 1 .junk), (l64.getD 2 .junk), (l64.getD 3 .junk), (l64.getD 4 .junk), (l64.getD 5 .junk), (l64.getD 6 .junk), (I 2)] H81) (
 R70 [(l64.getD 0 .junk), (l64.getD 1 .junk), (l64.getD 2 .junk), (l64.getD 3 .junk), (l64.getD 4 .junk), (l64.getD 5 .junk), (l64.getD 6 .junk), (I 1)] H81))) (
 R15 [(l64.getD 0 .junk), (l64.getD 1 .junk), (l64.getD 2 .junk), (l64.getD 3 .junk), (l64.getD 4 .junk), (l64.getD 5 .junk)] H65))
 (fun R66 =>
 C.aIx 2 (l4.getD 4 .junk).nod.nod (l4.getD 5 .junk).nod.nod fun v82 =>
 C.aIxA 2 1 false v82.nod (I 0) fun v83 =>
 C.aLd 1 false false v83.nod H5 fun v84 H85 =>
 C.aIx 2 (l4.getD 4 .junk).nod.nod (l4.getD 5 .junk).nod.nod fun v86 =>
 C.aIxA 2 1 false v86.nod (I 1) fun v87 =>
 C.aLd 1 false false v87.nod H85 fun v88 H89 =>
 C.call 78 [(l4.getD 0 .junk).nod.nod, v84.nod, v88.nod] H89 fun v90 H91 =>
 R66 [(l4.getD 0 .junk), (l4.getD 1 .junk), (l4.getD 2 .junk), (l4.getD 3 .junk), (l4.getD 4 .junk), (l4.getD 5 .junk), v90] H91)))) (
 R [(l4.getD 3 .junk).nod] H5))
 [a0, a1, a2, (V.arr [] .full), v2, (I 0)] H3
theorem wf46 : (Nat.ble 3 Try.f46.ntmps && wfC an46 Try.f46.ntmps (Try.f46.body.getD .skip)) = true := by kernel_rfl
theorem tie46 (C : Cb) (a0 a1 a2 : V) (H : Hp) (R : List V → Hp → Prop) : wpG Try.prog C an46 (Try.f46.body.getD .skip) (argF [a0, a1, a2]) H (retG Try.prog C Try.f46 R) (fun _ _ _ => False) (retG Try.prog C Try.f46 R) = vc46 C a0 a1 a2 H R := by kernel_rfl
theorem mk46 (a0 a1 a2 : V) {H : Hp} {v : V} {H1 : Hp} (hd : v.Nd) (hn : H.length ≤ H1.length) (hb : H1 = H ∨ ∀ (b : Nat) (blk : Blk), H1[b]? = some blk → H[b]? = some blk ∨ BelB H1.length blk) (h : vc46 (real Try.prog) a0 a1 a2 H (retF v H1)) : Ret Try.prog 46 [a0, a1, a2] H v H1 :=
 ret_mk (an := an46) hm Try.call46 Try.func46 rfl wf46 hd hn hb (Eq.mpr (tie46 (real Try.prog) a0 a1 a2 H (retF v H1)) h)
def an47 : An := { imm := [], jn := [(5, [0, 1, 2, 7, 8, 9]), (7, [0, 1, 2, 7, 8, 9, 26])], lp := [(4, [0, 1, 2, 7, 8, 9])], loud := [], ord := [] }
def vc47 (C : Cb) (a0 a1 a2 : V) (H : Hp) (R : List V → Hp → Prop) : Prop :=
 LoopA (fun l1 H2 K3 =>
 C.aBin (Try.prog.underlying 3) .lss (l1.getD 5 .junk).nod.nod (l1.getD 1 .junk).nod.nod fun v4 =>
 aCond v4.nod (
 Jn (fun l5 H6 =>
 C.aBin (Try.prog.underlying 3) .add (l5.getD 5 .junk).nod.nod (I 1) fun v8 =>
 K3 [(l5.getD 0 .junk), (l5.getD 1 .junk), (l5.getD 2 .junk), (l5.getD 3 .junk), (l5.getD 4 .junk), v8] H6)
 (fun R7 =>
 Jn (fun l9 H10 =>
 aCond (l9.getD 6 .junk).nod (
 C.aBin (Try.prog.underlying 3) .add (l9.getD 5 .junk).nod.nod (I 1) fun v12 =>
 C.aBd [(I 0), (I 0)] [(0, 1, (l9.getD 4 .junk).nod.nod), (1, 1, v12.nod.nod)] fun v13 =>
 C.aBS 2 1 (V.agg [(I 0), (I 0)]) [(0, (own0 v13 (l9.getD 4 .junk).nod).nod)] fun v14 =>
 C.aApp 2 16 (l9.getD 3 .junk) v14.nod fun v15 =>
 C.aBin (Try.prog.underlying 3) .add (l9.getD 5 .junk).nod.nod (I 1) fun v16 =>
 R7 [(l9.getD 0 .junk), (l9.getD 1 .junk), (l9.getD 2 .junk), v15, v16, (l9.getD 5 .junk)] H10) (
 R7 [(l9.getD 0 .junk), (l9.getD 1 .junk), (l9.getD 2 .junk), (l9.getD 3 .junk), (l9.getD 4 .junk), (l9.getD 5 .junk)] H10))
 (fun R11 =>
 C.aBin (Try.prog.underlying 3) .sub (l1.getD 1 .junk).nod.nod (I 1) fun v17 =>
 C.aBin (Try.prog.underlying 3) .eql (l1.getD 5 .junk).nod.nod v17.nod fun v18 =>
 Jv (fun v19 H20 =>
 R11 [(l1.getD 0 .junk), (l1.getD 1 .junk), (l1.getD 2 .junk), (l1.getD 3 .junk), (l1.getD 4 .junk), (l1.getD 5 .junk), v19] H20)
 (fun R21 =>
 aG v18.nod false (
 C.aIx 1 (l1.getD 0 .junk).nod.nod (l1.getD 5 .junk).nod.nod fun v22 =>
 C.aLd 1 false false v22.nod H2 fun v23 H24 =>
 C.aBin (Try.prog.underlying 3) .geq v23.nod (l1.getD 2 .junk).nod.nod fun v25 =>
 R21 v25.nod H24) (
 R21 (B true) H2))))) (
 R [(l1.getD 3 .junk).nod] H2))
 [a0, a1, a2, (V.arr [] .full), (I 0), (I 0)] H
theorem wf47 : (Nat.ble 3 Try.f47.ntmps && wfC an47 Try.f47.ntmps (Try.f47.body.getD .skip)) = true := by kernel_rfl
theorem tie47 (C : Cb) (a0 a1 a2 : V) (H : Hp) (R : List V → Hp → Prop) : wpG Try.prog C an47 (Try.f47.body.getD .skip) (argF [a0, a1, a2]) H (retG Try.prog C Try.f47 R) (fun _ _ _ => False) (retG Try.prog C Try.f47 R) = vc47 C a0 a1 a2 H R := by kernel_rfl
theorem mk47 (a0 a1 a2 : V) {H : Hp} {v : V} {H1 : Hp} (hd : v.Nd) (hn : H.length ≤ H1.length) (hb : H1 = H ∨ ∀ (b : Nat) (blk : Blk), H1[b]? = some blk → H[b]? = some blk ∨ BelB H1.length blk) (h : vc47 (real Try.prog) a0 a1 a2 H (retF v H1)) : Ret Try.prog 47 [a0, a1, a2] H v H1 :=
 ret_mk (an := an47) hm Try.call47 Try.func47 rfl wf47 hd hn hb (Eq.mpr (tie47 (real Try.prog) a0 a1 a2 H (retF v H1)) h)
def an76 : An := { imm := [2, 3, 8], jn := [(5, [2, 3, 5, 6, 7]), (8, [2, 3, 5, 6, 7, 8]), (11, [2, 3, 5, 6, 7, 8, 33])], lp := [(4, [2, 3, 5, 6, 7])], loud := [], ord := [] }
def vc76 (C : Cb) (a0 a1 : V) (H : Hp) (R : List V → Hp → Prop) : Prop :=
 C.aBx true 2 a0.nod H fun v1 H2 =>
 C.aBx true 2 a1.nod H2 fun v3 H4 =>
 C.aFA 0 1 false v3.nod fun v5 =>
 C.aLd 1 false false v5.nod H4 fun v6 H7 =>
 LoopA (fun l8 H9 K10 =>
 C.aFA 1 1 false (l8.getD 1 .junk).nod fun v11 =>
 C.aLd 1 false false v11.nod H9 fun v12 H13 =>
 C.aBin (Try.prog.underlying 3) .lss (l8.getD 4 .junk).nod.nod v12.nod fun v14 =>
 aCond v14.nod (
 Jn (fun l15 H16 =>
 C.aBin (Try.prog.underlying 3) .add (l15.getD 4 .junk).nod.nod (I 1) fun v18 =>
 K10 [(l15.getD 0 .junk), (l15.getD 1 .junk), (l15.getD 2 .junk), (l15.getD 3 .junk), v18] H16)
 (fun R17 =>
 C.aFA 0 1 false (l8.getD 0 .junk).nod fun v19 =>
 C.aLd 1 false false v19.nod H13 fun v20 H21 =>
 C.aIx 5 v20.nod (l8.getD 4 .junk).nod.nod fun v22 =>
 C.aLd 5 true false v22.nod H21 fun v23 H24 =>
 C.aBx true 5 v23.nod H24 fun v25 H26 =>
 Jn (fun l27 H28 =>
 C.aFA 3 1 false (l27.getD 5 .junk).nod fun v30 =>
 C.aLd 1 false false v30.nod H28 fun v31 H32 =>
 aCond v31.nod (
 R [(l27.getD 4 .junk).nod] H32) (
 Jn (fun l33 H34 =>
 aCond (l33.getD 6 .junk).nod (
 C.aFA 4 1 false (l33.getD 5 .junk).nod fun v36 =>
 C.aLd 1 false false v36.nod H34 fun v37 H38 =>
 R17 [(l33.getD 0 .junk), (l33.getD 1 .junk), (l33.getD 4 .junk).nod, v37, (l33.getD 4 .junk)] H38) (
 R17 [(l33.getD 0 .junk), (l33.getD 1 .junk), (l33.getD 2 .junk), (l33.getD 3 .junk), (l33.getD 4 .junk)] H34))
 (fun R35 =>
 C.aFA 4 1 false (l27.getD 5 .junk).nod fun v39 =>
 C.aLd 1 false false v39.nod H32 fun v40 H41 =>
 Jv (fun v42 H43 =>
 R35 [(l27.getD 0 .junk), (l27.getD 1 .junk), (l27.getD 2 .junk), (l27.getD 3 .junk), (l27.getD 4 .junk), (l27.getD 5 .junk), v42] H43)
 (fun R44 =>
 aG v40.nod false (
 C.aUn .not (l27.getD 3 .junk).nod.nod fun v45 =>
 R44 v45.nod H41) (
 R44 (B true) H41)))))
 (fun R29 =>
 C.aFA 1 1 false v25.nod fun v46 =>
 C.aLd 1 false false v46.nod H26 fun v47 H48 =>
 C.aBin (Try.prog.underlying 3) .lss v47.nod (I 0) fun v49 =>
 aCond v49.nod (
 R17 [(l8.getD 0 .junk), (l8.getD 1 .junk), (l8.getD 2 .junk), (l8.getD 3 .junk), (l8.getD 4 .junk)] H48) (
 R29 [(l8.getD 0 .junk), (l8.getD 1 .junk), (l8.getD 2 .junk), (l8.getD 3 .junk), (l8.getD 4 .junk), v25] H48)))) (
 R [(l8.getD 2 .junk).nod] H13))
 [v1, v3, (I (-1)), (B false), v6] H7
theorem wf76 : (Nat.ble 2 Try.f76.ntmps && wfC an76 Try.f76.ntmps (Try.f76.body.getD .skip)) = true := by kernel_rfl
theorem tie76 (C : Cb) (a0 a1 : V) (H : Hp) (R : List V → Hp → Prop) : wpG Try.prog C an76 (Try.f76.body.getD .skip) (argF [a0, a1]) H (retG Try.prog C Try.f76 R) (fun _ _ _ => False) (retG Try.prog C Try.f76 R) = vc76 C a0 a1 H R := by kernel_rfl
theorem mk76 (a0 a1 : V) {H : Hp} {v : V} {H1 : Hp} (hd : v.Nd) (hn : H.length ≤ H1.length) (hb : H1 = H ∨ ∀ (b : Nat) (blk : Blk), H1[b]? = some blk → H[b]? = some blk ∨ BelB H1.length blk) (h : vc76 (real Try.prog) a0 a1 H (retF v H1)) : Ret Try.prog 76 [a0, a1] H v H1 :=
 ret_mk (an := an76) hm Try.call76 Try.func76 rfl wf76 hd hn hb (Eq.mpr (tie76 (real Try.prog) a0 a1 H (retF v H1)) h)
def an77 : An := { imm := [3, 4], jn := [(4, [13, 14]), (9, [3, 4, 18])], lp := [], loud := [], ord := [] }
def vc77 (C : Cb) (a0 a1 a2 : V) (H : Hp) (R : List V → Hp → Prop) : Prop :=
 C.aBx true 2 a0.nod H fun v1 H2 =>
 C.aBx true 2 a1.nod H2 fun v3 H4 =>
 C.aFA 1 1 false v3.nod fun v5 =>
 C.aLd 1 false false v5.nod H4 fun v6 H7 =>
 C.aFA 0 1 false v1.nod fun v8 =>
 C.aLd 1 false false v8.nod H7 fun v9 H10 =>
 C.aLen v9.nod fun v11 =>
 C.aBin (Try.prog.underlying 3) .eql v6.nod v11.nod fun v12 =>
 aCond v12.nod (
 Jn (fun l13 H14 =>
 aCond (l13.getD 1 .junk).nod (
 R [(I 3)] H14) (
 C.aBin (Try.prog.underlying 85) .eql (l13.getD 0 .junk).nod (I 4) fun v16 =>
 aCond v16.nod (
 R [(I 5)] H14) (
 R [(I 4)] H14)))
 (fun R15 =>
 C.aBin (Try.prog.underlying 85) .eql a2.nod.nod (I 2) fun v17 =>
 R15 [a2.nod, v17] H10)) (
 Jn (fun l18 H19 =>
 aCond (l18.getD 2 .junk).nod (
 R [(I 3)] H19) (
 C.aFA 1 1 false (l18.getD 0 .junk).nod fun v21 =>
 C.aLd 1 false false v21.nod H19 fun v22 H23 =>
 C.aFA 1 1 false (l18.getD 1 .junk).nod fun v24 =>
 C.aLd 1 false false v24.nod H23 fun v25 H26 =>
 C.aBin (Try.prog.underlying 3) .sub v25.nod (I 1) fun v27 =>
 C.aIx 1 v22.nod v27.nod fun v28 =>
 C.aLd 1 false false v28.nod H26 fun v29 H30 =>
 C.aBin (Try.prog.underlying 3) .eql v29.nod (I 2) fun v31 =>
 aCond v31.nod (
 R [(I 4)] H30) (
 R [(I 5)] H30)))
 (fun R20 =>
 C.aBin (Try.prog.underlying 85) .eql a2.nod.nod (I 3) fun v32 =>
 R20 [v1, v3, v32] H10))
theorem wf77 : (Nat.ble 3 Try.f77.ntmps && wfC an77 Try.f77.ntmps (Try.f77.body.getD .skip)) = true := by kernel_rfl
theorem tie77 (C : Cb) (a0 a1 a2 : V) (H : Hp) (R : List V → Hp → Prop) : wpG Try.prog C an77 (Try.f77.body.getD .skip) (argF [a0, a1, a2]) H (retG Try.prog C Try.f77 R) (fun _ _ _ => False) (retG Try.prog C Try.f77 R) = vc77 C a0 a1 a2 H R := by kernel_rfl
theorem mk77 (a0 a1 a2 : V) {H : Hp} {v : V} {H1 : Hp} (hd : v.Nd) (hn : H.length ≤ H1.length) (hb : H1 = H ∨ ∀ (b : Nat) (blk : Blk), H1[b]? = some blk → H[b]? = some blk ∨ BelB H1.length blk) (h : vc77 (real Try.prog) a0 a1 a2 H (retF v H1)) : Ret Try.prog 77 [a0, a1, a2] H v H1 :=
 ret_mk (an := an77) hm Try.call77 Try.func77 rfl wf77 hd hn hb (Eq.mpr (tie77 (real Try.prog) a0 a1 a2 H (retF v H1)) h)
def an78 : An := { imm := [], jn := [(5, [0, 1, 2, 7, 28]), (10, [0, 1, 2, 8, 49])], lp := [(2, [0, 1, 2, 7]), (7, [0, 1, 2, 8]), (12, [0, 1, 9])], loud := [], ord := [] }
def vc78 (C : Cb) (a0 a1 a2 : V) (H : Hp) (R : List V → Hp → Prop) : Prop :=
 LoopA (fun l1 H2 K3 =>
 C.aBin (Try.prog.underlying 3) .lss (l1.getD 3 .junk).nod.nod (l1.getD 2 .junk).nod.nod fun v4 =>
 aCond v4.nod (
 Jn (fun l5 H6 =>
 aCond (l5.getD 4 .junk).nod (
 R [(l5.getD 3 .junk).nod] H6) (
 C.aBin (Try.prog.underlying 3) .add (l5.getD 3 .junk).nod.nod (I 1) fun v8 =>
 K3 [(l5.getD 0 .junk), (l5.getD 1 .junk), (l5.getD 2 .junk), v8] H6))
 (fun R7 =>
 C.aIx 5 (l1.getD 0 .junk).nod.nod (l1.getD 3 .junk).nod.nod fun v9 =>
 C.aFA 3 1 false v9.nod fun v10 =>
 C.aLd 1 false false v10.nod H2 fun v11 H12 =>
 Jv (fun v13 H14 =>
 R7 [(l1.getD 0 .junk), (l1.getD 1 .junk), (l1.getD 2 .junk), (l1.getD 3 .junk), v13] H14)
 (fun R15 =>
 aG v11.nod true (
 C.aIx 5 (l1.getD 0 .junk).nod.nod (l1.getD 3 .junk).nod.nod fun v16 =>
 C.aFA 1 1 false v16.nod fun v17 =>
 C.aLd 1 false false v17.nod H12 fun v18 H19 =>
 C.aBin (Try.prog.underlying 3) .geq v18.nod (I 0) fun v20 =>
 R15 v20.nod H19) (
 R15 (B false) H12)))) (
 C.aBin (Try.prog.underlying 3) .sub (l1.getD 2 .junk).nod.nod (I 1) fun v21 =>
 LoopA (fun l22 H23 K24 =>
 C.aBin (Try.prog.underlying 3) .geq (l22.getD 3 .junk).nod.nod (l22.getD 1 .junk).nod.nod fun v25 =>
 aCond v25.nod (
 Jn (fun l26 H27 =>
 aCond (l26.getD 4 .junk).nod (
 R [(l26.getD 3 .junk).nod] H27) (
 C.aBin (Try.prog.underlying 3) .sub (l26.getD 3 .junk).nod.nod (I 1) fun v29 =>
 K24 [(l26.getD 0 .junk), (l26.getD 1 .junk), (l26.getD 2 .junk), v29] H27))
 (fun R28 =>
 C.aIx 5 (l22.getD 0 .junk).nod.nod (l22.getD 3 .junk).nod.nod fun v30 =>
 C.aFA 4 1 false v30.nod fun v31 =>
 C.aLd 1 false false v31.nod H23 fun v32 H33 =>
 Jv (fun v34 H35 =>
 R28 [(l22.getD 0 .junk), (l22.getD 1 .junk), (l22.getD 2 .junk), (l22.getD 3 .junk), v34] H35)
 (fun R36 =>
 aG v32.nod true (
 C.aIx 5 (l22.getD 0 .junk).nod.nod (l22.getD 3 .junk).nod.nod fun v37 =>
 C.aFA 1 1 false v37.nod fun v38 =>
 C.aLd 1 false false v38.nod H33 fun v39 H40 =>
 C.aBin (Try.prog.underlying 3) .geq v39.nod (I 0) fun v41 =>
 R36 v41.nod H40) (
 R36 (B false) H33)))) (
 C.aBin (Try.prog.underlying 3) .sub (l22.getD 2 .junk).nod.nod (I 1) fun v42 =>
 LoopA (fun l43 H44 K45 =>
 C.aBin (Try.prog.underlying 3) .geq (l43.getD 2 .junk).nod.nod (l43.getD 1 .junk).nod.nod fun v46 =>
 aCond v46.nod (
 C.aIx 5 (l43.getD 0 .junk).nod.nod (l43.getD 2 .junk).nod.nod fun v47 =>
 C.aFA 1 1 false v47.nod fun v48 =>
 C.aLd 1 false false v48.nod H44 fun v49 H50 =>
 C.aBin (Try.prog.underlying 3) .geq v49.nod (I 0) fun v51 =>
 aCond v51.nod (
 R [(l43.getD 2 .junk).nod] H50) (
 C.aBin (Try.prog.underlying 3) .sub (l43.getD 2 .junk).nod.nod (I 1) fun v52 =>
 K45 [(l43.getD 0 .junk), (l43.getD 1 .junk), v52] H50)) (
 R [(I (-1))] H44))
 [(l22.getD 0 .junk), (l22.getD 1 .junk), v42] H23))
 [(l1.getD 0 .junk), (l1.getD 1 .junk), (l1.getD 2 .junk), v21] H2))
 [a0, a1, a2, a1.nod] H
theorem wf78 : (Nat.ble 3 Try.f78.ntmps && wfC an78 Try.f78.ntmps (Try.f78.body.getD .skip)) = true := by kernel_rfl
theorem tie78 (C : Cb) (a0 a1 a2 : V) (H : Hp) (R : List V → Hp → Prop) : wpG Try.prog C an78 (Try.f78.body.getD .skip) (argF [a0, a1, a2]) H (retG Try.prog C Try.f78 R) (fun _ _ _ => False) (retG Try.prog C Try.f78 R) = vc78 C a0 a1 a2 H R := by kernel_rfl
theorem mk78 (a0 a1 a2 : V) {H : Hp} {v : V} {H1 : Hp} (hd : v.Nd) (hn : H.length ≤ H1.length) (hb : H1 = H ∨ ∀ (b : Nat) (blk : Blk), H1[b]? = some blk → H[b]? = some blk ∨ BelB H1.length blk) (h : vc78 (real Try.prog) a0 a1 a2 H (retF v H1)) : Ret Try.prog 78 [a0, a1, a2] H v H1 :=
 ret_mk (an := an78) hm Try.call78 Try.func78 rfl wf78 hd hn hb (Eq.mpr (tie78 (real Try.prog) a0 a1 a2 H (retF v H1)) h)
end Go.Proofs.Ytgicpobploinhaa
set_option linter.unusedSimpArgs false
set_option linter.unnecessarySimpa false
set_option maxHeartbeats 2000000
namespace Go.Proofs.Ytgicpobploinhaa
open Go Go.Ab Go.Proofs
attribute [local congr] g_bin g_nilS g_nilP g_un g_ext g_bx g_fa g_ld g_st g_ix g_ixA g_slc g_mk g_bs g_bd g_nc g_cv g_len g_lenT g_app g_appB g_cpy g_mm g_call g_callG g_calm g_calmG g_range g_res g_pick g_cond g_loop g_Jv g_eqS g_eqP g_fd g_ixT g_ta g_lkp g_upd g_mkM g_appS g_inv g_callE g_callEG g_invE g_zr g_wr
theorem c27 (l : List Wd) (H : Hp) (hl : l.length ≤ 9223372036854775807) : Ret Try.prog 27 [.arr (l.map wdV) .no] H (B (okWs l)) H := by
 refine mk27 _ rfl (Nat.le_refl _) (.inl rfl) ?_
 simp only [vc27, real]
 unfold okWs
 by_cases h6 : l.length ≤ 60
 ·have d : ¬ (60 : Int) < l.length := by omega
  rw [decide_eq_true h6, Bool.true_and]
  repeat (first | (with_reducible first | refine Ju.go ?_ | (refine Hd.go ?_; intro K Q hK hQ; simp only [nod_arr, nd_no, e_lenA, List.length_map, nod_imm, Try.underlying3, e_gtr, d, decide_false, e_cond, Bool.false_eq_true, if_false]; subst hK hQ) | refine Jr.go ?_) | refine sd ?_)
  refine loop_of (fun i : Nat => i ≤ l.length ∧ (l.take i).all okWd = true) (fun i => [.arr (l.map wdV) .no, I i]) (fun _ => H) (fun i => l.length - i) 0 ⟨Nat.zero_le _, rfl⟩ rfl rfl ?_
  intro i ⟨hi, hp⟩
  repeat (first | (with_reducible first | refine Ju.go ?_ | (refine Hd.go ?_; intro K Q hK hQ; simp only [List.getD_cons_zero, nod_arr, nd_no, e_lenA, List.length_map, List.getD_cons_succ, nod_imm, Try.underlying3, e_lss, e_cond, decide_eq_true_eq]; subst hK hQ) | refine Jr.go ?_) | refine sd ?_)
  by_cases hlt : i < l.length
  ·have d1 : (i : Int) < l.length := by omega
   repeat (first | (with_reducible first | refine Ju.go ?_ | (refine Hd.go ?_; intro K Q hK hQ; simp only [d1, if_true, List.getD_cons_zero, nod_arr, nd_no, List.getD_cons_succ, nod_imm, ix_wd, Int.toNat_natCast, true_and, nod_cptr, e_fac, Nat.zero_add, lv_cons, List.length_nil, Nat.reduceAdd, Nat.reduceLeDiff, e_ldc, Try.underlying3, e_lss, e_gtr, e_gF, j_fl, decide_eq_false_iff_not, j_or', j_side, j_one, Int.reduceNeg, e_geq, e_cond]; subst hK hQ) | refine Jr.go ?_) | refine sd ?_)
   have e : (decide ((l.getD i default).sy < 1) || decide (20 < (l.getD i default).sy) || decide ((l.getD i default).st < -1) || decide ((l.getD i default).sy ≤ (l.getD i default).st) || decide ((l.getD i default).gp < 0) || decide (20 < (l.getD i default).gp)) = !okWd (l.getD i default) := by
    rw [Bool.eq_iff_iff]
    simp only [okWd, inB, Bool.not_eq_true', Bool.and_eq_false_iff, Bool.or_eq_true, decide_eq_true_eq, decide_eq_false_iff_not]
    omega
   rw [e]
   cases hb : okWd (l.getD i default)
   ·rw [show l.all okWd = false from all_bad l default _ hlt hb]
    repeat (first | (with_reducible first | refine Ju.go ?_ | (refine Hd.go ?_; intro K Q hK hQ; simp only [Bool.not_false, if_true]; subst hK hQ) | refine Jr.go ?_) | refine sd ?_)
    exact end1 (fzI _)
   ·repeat (first | (with_reducible first | refine Ju.go ?_ | (refine Hd.go ?_; intro K Q hK hQ; simp only [Bool.not_true, Bool.false_eq_true, if_false, List.getD_cons_succ, List.getD_cons_zero, nod_imm, Try.underlying3, e_add]; subst hK hQ) | refine Jr.go ?_) | refine sd ?_)
    exact ⟨i + 1, ⟨by omega, by rw [all_take l default _ hlt, hp, hb]; rfl⟩, rfl, rfl, by omega⟩
  ·have d1 : ¬ (i : Int) < l.length := by omega
   rw [List.take_of_length_le (by omega)] at hp
   rw [hp]
   repeat (first | (with_reducible first | refine Ju.go ?_ | (refine Hd.go ?_; intro K Q hK hQ; simp only [d1, if_false]; subst hK hQ) | refine Jr.go ?_) | refine sd ?_)
   exact end1 (fzI _)
 ·have d : (60 : Int) < l.length := by omega
  rw [decide_eq_false h6, Bool.false_and]
  repeat (first | (with_reducible first | refine Ju.go ?_ | (refine Hd.go ?_; intro K Q hK hQ; simp only [nod_arr, nd_no, e_lenA, List.length_map, nod_imm, Try.underlying3, e_gtr, d, decide_true, e_cond, if_true]; subst hK hQ) | refine Jr.go ?_) | refine sd ?_)
  exact end1 (fzI _)
def okBr (b : List Int) (n : Nat) : Bool := decide (b.length = n - 1) && b.all fun x => inB x 0 2
theorem c43 (ws : List Wd) (b : List Int) (H : Hp) (hw : ws.length ≤ 9223372036854775807) (hb : b.length ≤ 9223372036854775807) : Ret Try.prog 43 [.arr (ws.map wdV) .no, ints b .no] H (B (okBr b ws.length)) H := by
 have r : R64 ((ws.length : Int) - 1) := by unfold R64; omega
 refine mk43 _ _ rfl (Nat.le_refl _) (.inl rfl) ?_
 simp only [vc43, real]
 unfold okBr
 by_cases h6 : b.length = ws.length - 1
 ·have d : (b.length : Int) = max 0 ((ws.length : Int) - 1) := by omega
  rw [decide_eq_true h6, Bool.true_and]
  repeat (first | (with_reducible first | refine Ju.go ?_ | (refine Hd.go ?_; intro K Q hK hQ; simp only [nod_ints, nd_no, e_len, d, nod_arr, e_lenA, List.length_map, nod_imm, Try.underlying3, e_sub, r, true_and, e_max2, e_neq, decide_true, Bool.not_true, e_cond, Bool.false_eq_true, if_false]; subst hK hQ) | refine Jr.go ?_) | refine sd ?_)
  refine loop_of (fun i : Nat => i ≤ b.length ∧ (b.take i).all (fun x => inB x 0 2) = true) (fun i => [ints b .no, I i]) (fun _ => H) (fun i => b.length - i) 0 ⟨Nat.zero_le _, rfl⟩ rfl rfl ?_
  intro i ⟨hi, hp⟩
  repeat (first | (with_reducible first | refine Ju.go ?_ | (refine Hd.go ?_; intro K Q hK hQ; simp only [List.getD_cons_zero, nod_ints, nd_no, e_len, List.getD_cons_succ, nod_imm, Try.underlying3, e_lss, e_cond, decide_eq_true_eq]; subst hK hQ) | refine Jr.go ?_) | refine sd ?_)
  by_cases hlt : i < b.length
  ·have d1 : (i : Int) < b.length := by omega
   repeat (first | (with_reducible first | refine Ju.go ?_ | (refine Hd.go ?_; intro K Q hK hQ; simp only [d1, if_true, List.getD_cons_zero, nod_ints, nd_no, List.getD_cons_succ, nod_imm, e_ix, Int.toNat_natCast, true_and, nod_cptr, e_ldc, Try.underlying3, e_lss, e_gtr, e_gF, j_fl, decide_eq_false_iff_not, j_or', j_side, j_one, e_cond]; subst hK hQ) | refine Jr.go ?_) | refine sd ?_)
   have e : (decide (b.getD i 0 < 0) || decide (2 < b.getD i 0)) = !inB (b.getD i 0) 0 2 := by
    unfold inB
    rw [Bool.not_and, ← decide_not, ← decide_not]
    simp only [Int.not_le]
   rw [e]
   cases hb : inB (b.getD i 0) 0 2
   ·rw [show (b.all fun x => inB x 0 2) = false from all_bad b 0 _ hlt hb]
    repeat (first | (with_reducible first | refine Ju.go ?_ | (refine Hd.go ?_; intro K Q hK hQ; simp only [Bool.not_false, if_true]; subst hK hQ) | refine Jr.go ?_) | refine sd ?_)
    exact end1 (fzI _)
   ·repeat (first | (with_reducible first | refine Ju.go ?_ | (refine Hd.go ?_; intro K Q hK hQ; simp only [Bool.not_true, Bool.false_eq_true, if_false, List.getD_cons_succ, List.getD_cons_zero, nod_imm, Try.underlying3, e_add]; subst hK hQ) | refine Jr.go ?_) | refine sd ?_)
    exact ⟨i + 1, ⟨by omega, by rw [all_take b 0 _ hlt, hp, hb]; rfl⟩, rfl, rfl, by omega⟩
  ·have d1 : ¬ (i : Int) < b.length := by omega
   rw [List.take_of_length_le (by omega)] at hp
   rw [hp]
   repeat (first | (with_reducible first | refine Ju.go ?_ | (refine Hd.go ?_; intro K Q hK hQ; simp only [d1, if_false]; subst hK hQ) | refine Jr.go ?_) | refine sd ?_)
   exact end1 (fzI _)
 ·have d : ¬ (b.length : Int) = max 0 ((ws.length : Int) - 1) := by omega
  rw [decide_eq_false h6, Bool.false_and]
  repeat (first | (with_reducible first | refine Ju.go ?_ | (refine Hd.go ?_; intro K Q hK hQ; simp only [nod_ints, nd_no, e_len, nod_arr, e_lenA, List.length_map, nod_imm, Try.underlying3, e_sub, r, true_and, e_max2, e_neq, d, decide_false, Bool.not_false, e_cond, if_true]; subst hK hQ) | refine Jr.go ?_) | refine sd ?_)
  exact end1 (fzI _)
theorem c102 (x : Int) (H : Hp) : Ret Try.prog 102 [I x] H (B (!inB x 0 2)) H := by
 refine mk102 _ rfl (Nat.le_refl _) (.inl rfl) ?_
 simp only [vc102, real]
 repeat (first | (with_reducible first | refine Ju.go ?_ | (refine Hd.go ?_; intro K Q hK hQ; simp only [nod_imm]; subst hK hQ) | refine Jr.go ?_) | refine sd ?_)
 refine call_of (c55 _ _ _ _) ?_
 repeat (first | (with_reducible first | refine Ju.go ?_ | (refine Hd.go ?_; intro K Q hK hQ; simp only [nod_imm, e_not]; subst hK hQ) | refine Jr.go ?_) | refine sd ?_)
 exact end1 (fzI _)
theorem c73 (b : List Int) (n : Nat) (H : Hp) (hn : n ≤ 9223372036854775807) (hb : b.length ≤ 9223372036854775807) : Ret Try.prog 73 [ints b .no, I n] H (B (okBr b n)) H := by
 have r : R64 ((n : Int) - 1) := by unfold R64; omega
 refine mk73 _ _ rfl (Nat.le_refl _) (.inl rfl) ?_
 simp only [vc73, real]
 unfold okBr
 repeat (first | (with_reducible first | refine Ju.go ?_ | (refine Hd.go ?_; intro K Q hK hQ; simp only [nod_ints, nd_no, e_len, nod_imm, Try.underlying3, e_sub, r, true_and, e_max2, e_eql, e_gT]; subst hK hQ) | refine Jr.go ?_) | refine sd ?_)
 refine ja_n (c79 b 102 [] (fun x => !inB x 0 2) _ hb fun x _ => c102 x _) ?_
 have a1 : decide ((b.length : Int) = max ((n : Int) - 1) 0) = decide (b.length = n - 1) := by rw [decide_eq_decide]; omega
 rw [any_neg, Bool.not_not, a1]
 exact end1 (fzI _)
abbrev seV (ws : List Wd) (b : List Int) : V := .agg [.arr (ws.map wdV) .no, ints b .no]
def cutB (b : List Int) (l : Int) (i : Nat) : Bool := !(decide (i < b.length) && decide (b.getD i 0 < l))
def phF (b : List Int) (l : Int) : Nat → Nat
 | 0 => 0
 | i + 1 => if cutB b l i = true then i + 1 else phF b l i
def phs (b : List Int) (l : Int) : Nat → List (Nat × Nat)
 | 0 => []
 | i + 1 => if cutB b l i = true then phs b l i ++ [(phF b l i, i + 1)] else phs b l i
theorem phF_le (b : List Int) (l : Int) : ∀ i, phF b l i ≤ i
 | 0 => Nat.le_refl _
 | i + 1 => by
  unfold phF
  have := phF_le b l i
  split <;> omega
theorem phs_len (b : List Int) (l : Int) : ∀ i, (phs b l i).length ≤ i
 | 0 => Nat.le_refl _
 | i + 1 => by
  unfold phs
  have := phs_len b l i
  split
  ·rw [List.length_append]; simp; omega
  ·omega
theorem phs_mem (b : List Int) (l : Int) : ∀ i p, p ∈ phs b l i → p.1 < p.2 ∧ p.2 ≤ i
 | 0, p, h => by cases h
 | i + 1, p, h => by
  unfold phs at h
  split at h
  ·rcases List.mem_append.1 h with h | h
   ·have := phs_mem b l i p h; omega
   ·rw [List.mem_singleton] at h
    subst h
    have := phF_le b l i
    exact ⟨by show phF b l i < i + 1; omega, Nat.le_refl _⟩
  ·have := phs_mem b l i p h; omega
theorem bel_wds (n : Nat) (ws : List Wd) : Bel n (.arr (ws.map wdV) .no) := bel_E (e := wdV) (fun x => .agg _ fun c hc => by
 simp only [List.mem_cons, List.not_mem_nil, or_false] at hc
 rcases hc with rfl | rfl | rfl | rfl | rfl <;> exact .imm _) ws .no
theorem bel_seV (n : Nat) (ws : List Wd) (b : List Int) : Bel n (seV ws b) := .agg _ fun c hc => by
 simp only [List.mem_cons, List.not_mem_nil, or_false] at hc
 rcases hc with rfl | rfl
 ·exact bel_wds n ws
 ·exact bel_ints _ _ _
theorem c75 (ws : List Wd) (b : List Int) (l : Int) (H : Hp) : Ret Try.prog 75 [seV ws b, I l] H (.fn 103 [.cptr (seV ws b), .cptr (I l)]) H := by
 refine mk75 _ _ rfl (Nat.le_refl _) (.inl rfl) ?_
 simp only [vc75, real]
 repeat (first | (with_reducible first | refine Ju.go ?_ | (refine Hd.go ?_; intro K Q hK hQ; simp only [nod_agg, List.map_cons, nodL_arr, nd_no, nodL_ints, List.map_nil, e_bxI, okE_agg, lv_cons, List.length_nil, Nat.zero_add, Nat.reduceAdd, all_c, ck_arr, ck_ints, all_n, Bool.and_self, and_true, true_and, nod_imm, okE_I]; subst hK hQ) | refine Jr.go ?_) | refine sd ?_)
 refine end1 (.keep _ (.fn _ _ fun c hc => ?_))
 simp only [List.mem_cons, List.not_mem_nil, or_false] at hc
 rcases hc with rfl | rfl
 ·exact .cptr _ (bel_seV _ ws b)
 ·exact .cptr _ (.imm _)
theorem c103 (ws : List Wd) (b : List Int) (l : Int) (bb : Nat) (H : Hp) (P : List (Nat × Nat) → Hp → Prop) (hw : ws.length ≤ 1000000) (hl : b.length ≤ 1000000) (h0 : P [] H)
    (hs : ∀ i G, i < ws.length → cutB b l i = true → P (phs b l i) G → RetYE Try.prog bb [.agg [I (phF b l i), I ((i + 1 : Nat) : Int)]] G (fun v G' => v = B true ∧ P (phs b l i ++ [(phF b l i, i + 1)]) G')) :
    RetE Try.prog 103 [.yld bb, .cptr (seV ws b), .cptr (I l)] H (fun _ H' => P (phs b l ws.length) H') := by
  refine mkE103 _ _ _ ?_
  simp only [vc103, real]
  repeat (first | (with_reducible first | refine Ju.go ?_ | (refine Hd.go ?_; intro K Q hK hQ; simp only [nod_cptr, e_fac, Nat.zero_add, lv_cons, List.length_nil, Nat.reduceAdd, Nat.reduceLeDiff, List.getD_cons_zero, true_and, e_ldcV, nod_arr, nd_no, e_lenA, List.length_map]; subst hK hQ) | refine Jr.go ?_) | refine sd ?_)
  refine loop_of (fun q : Nat × Hp => q.1 ≤ ws.length ∧ P (phs b l q.1) q.2) (fun q => [.yld bb, .cptr (seV ws b), .cptr (I l), I (phF b l q.1), I ws.length, I q.1]) (·.2) (fun q => ws.length - q.1) (0, H) ⟨Nat.zero_le _, h0⟩ rfl rfl ?_
  rintro ⟨i, G⟩ ⟨hi, hP⟩
  simp only at hi hP ⊢
  repeat (first | (with_reducible first | refine Ju.go ?_ | (refine Hd.go ?_; intro K Q hK hQ; simp only [List.getD_cons_succ, List.getD_cons_zero, nod_imm, Try.underlying3, e_lss, e_cond, decide_eq_true_eq]; subst hK hQ) | refine Jr.go ?_) | refine sd ?_)
  by_cases hlt : i < ws.length
  · have d : (i : Int) < ws.length := by omega
    have ef : phF b l (i + 1) = if cutB b l i = true then i + 1 else phF b l i := rfl
    have ep : phs b l (i + 1) = if cutB b l i = true then phs b l i ++ [(phF b l i, i + 1)] else phs b l i := rfl
    repeat (first | (with_reducible first | refine Ju.go ?_ | (refine Hd.go ?_; intro K Q hK hQ; simp only [d, if_true, List.getD_cons_succ, List.getD_cons_zero, nod_cptr, e_fac, Nat.reduceAdd, lv_cons, List.length_nil, Nat.zero_add, Nat.reduceLeDiff, true_and, e_ldci, nod_ints, nd_no, e_len, nod_imm, Try.underlying3, e_lss, e_ldc, e_ix, Int.toNat_natCast, e_gT, j_tl, decide_eq_true_eq, j_and', j_side, j_one, e_cond]; subst hK hQ) | refine Jr.go ?_) | refine sd ?_)
    have e : (decide ((i : Int) < b.length) && decide (b.getD i 0 < l)) = !cutB b l i := by
      unfold cutB
      rw [Bool.not_not, show decide ((i : Int) < b.length) = decide (i < b.length) by rw [decide_eq_decide]; omega]
    have r1 : R64 ((i : Int) + 1) := by unfold R64; omega
    rw [e]
    cases hc : cutB b l i
    · rw [hc, if_neg (by decide)] at ef ep
      repeat (first | (with_reducible first | refine Ju.go ?_ | (refine Hd.go ?_; intro K Q hK hQ; simp only [Bool.not_false, if_true, List.getD_cons_succ, List.getD_cons_zero, nod_imm, Try.underlying3, e_add, r1, true_and]; subst hK hQ) | refine Jr.go ?_) | refine sd ?_)
      exact ⟨(i + 1, G), ⟨hlt, by show P (phs b l (i + 1)) G; rw [ep]; exact hP⟩, by show [_, _, _, I (phF b l (i + 1) : Nat), _, _] = _; rw [ef]; rfl, rfl, by show ws.length - (i + 1) < ws.length - i; omega⟩
    · rw [hc, if_pos rfl] at ef ep
      repeat (first | (with_reducible first | refine Ju.go ?_ | (refine Hd.go ?_; intro K Q hK hQ; simp only [Bool.not_true, Bool.false_eq_true, if_false, List.getD_cons_zero, List.getD_cons_succ, nod_imm, Try.underlying3, e_add, r1, true_and, e_bd1, okE_I, Nat.zero_add, lv_cons, List.length_nil, Nat.reduceAdd, Nat.reduceLeDiff, cl_imm, spl_0, spl_n, spl_s, e_bd0, nod_nod, own0_imm, nod_agg, List.map_cons, nodL_imm, List.map_nil]; subst hK hQ) | refine Jr.go ?_) | refine sd ?_)
      show CallYE Try.prog bb [.agg [I (phF b l i), I ((i : Int) + 1)]] G _
      refine ⟨_, hs i G hlt hc hP, ?_⟩
      rintro v G2 ⟨rfl, hP2⟩
      repeat (first | (with_reducible first | refine Ju.go ?_ | (refine Hd.go ?_; intro K Q hK hQ; simp only [nod_imm, e_not, Bool.not_true, e_cond, Bool.false_eq_true, if_false, List.getD_cons_succ, List.getD_cons_zero, Try.underlying3, e_add, r1, true_and]; subst hK hQ) | refine Jr.go ?_) | refine sd ?_)
      exact ⟨(i + 1, G2), ⟨hlt, by show P (phs b l (i + 1)) G2; rw [ep]; exact hP2⟩, by show [_, _, _, I (phF b l (i + 1) : Nat), _, _] = _; rw [ef]; rfl, rfl, by show ws.length - (i + 1) < ws.length - i; omega⟩
  · have d : ¬ (i : Int) < ws.length := by omega
    obtain rfl : i = ws.length := by omega
    repeat (first | (with_reducible first | refine Ju.go ?_ | (refine Hd.go ?_; intro K Q hK hQ; simp only [d, if_false]; subst hK hQ) | refine Jr.go ?_) | refine sd ?_)
    exact hP
theorem e_range (P : Program) (f : Nat) (caps : List V) (np : Nat) (H : Hp) (stp : List V → Hp → (Hp → (Hp → Prop) → Prop) → (Bool → Hp → Prop) → Prop) (n r : Hp → Prop) : aRange P (.fn f caps) np H stp n r = RangeA P f caps np H stp (fun p H' => cnd p (r H') (n H')) := rfl
def hh (H : Hp) (x y : Blk) : Hp := H ++ [x] ++ [y]
theorem hh_0 (H : Hp) (x y : Blk) : (hh H x y)[H.length]? = some x := by
 unfold hh
 rw [List.append_assoc, tail0]; rfl
theorem hh_1 (H : Hp) (x y : Blk) : (hh H x y)[H.length + 1]? = some y := by
 unfold hh
 rw [List.getElem?_append_right (by simp)]; simp
end Go.Proofs.Ytgicpobploinhaa
set_option maxHeartbeats 4000000
namespace Go.Proofs.Ytgicpobploinhaa
open Go Go.Ab Go.Proofs
end Go.Proofs.Ytgicpobploinhaa
set_option maxHeartbeats 2000000
namespace Go.Proofs.Ytgicpobploinhaa
open Go Go.Ab Go.Proofs
attribute [local congr] g_bin g_nilS g_nilP g_un g_ext g_bx g_fa g_ld g_st g_ix g_ixA g_slc g_mk g_bs g_bd g_nc g_cv g_len g_lenT g_app g_appB g_cpy g_mm g_call g_callG g_calm g_calmG g_range g_res g_pick g_cond g_loop g_Jv g_eqS g_eqP g_fd g_ixT g_ta g_lkp g_upd g_mkM g_appS g_inv g_callE g_callEG g_invE g_zr g_wr
abbrev prV (p : Nat × Nat) : V := .agg [I p.1, I p.2]
theorem ix_pr (l : List (Nat × Nat)) (f : Fl) (i : Int) {K : V → Prop} : aIx 2 (.arr (l.map prV) f) (I i) K = (0 ≤ i ∧ i < l.length ∧ K (.cptr (prV (l.getD i.toNat default)))) := e_ixE prV default (fun _ => rfl) l f i
theorem bs_pr (x y : Int) (z : V) (K : V → Prop) : aBS 2 1 z [(0, .agg [I x, I y])] K = K (.arr [.agg [I x, I y]] .full) := by
 have h : okE 2 (.agg [I x, I y]) = True := eq_true ⟨rfl, fun c hc => by
  simp only [V.cl, List.mem_cons, List.not_mem_nil, or_false] at hc
  rcases hc with rfl | rfl <;> rfl⟩
 simp [aBS, aPs, setP, h]
theorem bel_prs (n : Nat) (l : List (Nat × Nat)) (f : Fl) : Bel n (.arr (l.map prV) f) := bel_E (e := prV) (fun x => .agg _ fun c hc => by
 simp only [List.mem_cons, List.not_mem_nil, or_false] at hc
 rcases hc with rfl | rfl <;> exact .imm _) l f
theorem c47 (b : List Int) (n : Nat) (l : Int) (H : Hp) (hn : n ≤ 1000000) (hb : b.length = n - 1) : Ret Try.prog 47 [ints b .no, I n, I l] H (.arr ((phs b l n).map prV) .no) H := by
 refine mk47 _ _ _ rfl (Nat.le_refl _) (.inl rfl) ?_
 simp only [vc47, real]
 refine loop_of (fun q : Nat × Fl => q.1 ≤ n ∧ q.2.ap = true ∧ ((q.2 = .full ∧ phs b l q.1 = []) ∨ q.2 = .own)) (fun q => [ints b .no, I n, I l, .arr ((phs b l q.1).map prV) q.2, I (phF b l q.1), I q.1]) (fun _ => H) (fun q => n - q.1) (0, .full) ⟨Nat.zero_le _, rfl, .inl ⟨rfl, rfl⟩⟩ rfl rfl ?_
 rintro ⟨i, f⟩ ⟨hi, hap, hff⟩
 simp only at hi hap hff ⊢
 have hpl := phs_len b l i
 repeat (first | (with_reducible first | refine Ju.go ?_ | (refine Hd.go ?_; intro K Q hK hQ; simp only [List.getD_cons_succ, List.getD_cons_zero, nod_imm, Try.underlying3, e_lss, e_cond, decide_eq_true_eq]; subst hK hQ) | refine Jr.go ?_) | refine sd ?_)
 by_cases hlt : i < n
 ·have d : (i : Int) < n := by omega
  have ef : phF b l (i + 1) = if cutB b l i = true then i + 1 else phF b l i := rfl
  have ep : phs b l (i + 1) = if cutB b l i = true then phs b l i ++ [(phF b l i, i + 1)] else phs b l i := rfl
  have r0 : R64 ((n : Int) - 1) := by unfold R64; omega
  have r1 : R64 ((i : Int) + 1) := by unfold R64; omega
  repeat (first | (with_reducible first | refine Ju.go ?_ | (refine Hd.go ?_; intro K Q hK hQ; simp only [d, if_true, List.getD_cons_succ, List.getD_cons_zero, nod_imm, Try.underlying3, e_sub, r0, true_and, e_eql, nod_ints, nd_no, e_ix, Int.toNat_natCast, nod_cptr, e_ldc, e_geq, e_gF, j_fl, decide_eq_false_iff_not, j_or', j_side, j_one, e_cond]; subst hK hQ) | refine Jr.go ?_) | refine sd ?_)
  have ec : (decide ((i : Int) = (n : Int) - 1) || decide (l ≤ b.getD i 0)) = cutB b l i := by
   unfold cutB
   by_cases he : i = n - 1
   ·rw [decide_eq_true (show (i : Int) = (n : Int) - 1 by omega), decide_eq_false (show ¬ i < b.length by omega)]; rfl
   ·rw [decide_eq_false (show ¬ (i : Int) = (n : Int) - 1 by omega), decide_eq_true (show i < b.length by omega), Bool.false_or, Bool.true_and, ← decide_not, decide_eq_decide]; omega
  rw [ec]
  cases hc : cutB b l i
  ·rw [hc, if_neg (by decide)] at ef ep
   repeat (first | (with_reducible first | refine Ju.go ?_ | (refine Hd.go ?_; intro K Q hK hQ; simp only [Bool.false_eq_true, if_false, List.getD_cons_zero, List.getD_cons_succ, nod_imm, Try.underlying3, e_add, r1, true_and]; subst hK hQ) | refine Jr.go ?_) | refine sd ?_)
   exact ⟨(i + 1, f), ⟨hlt, hap, by show (f = .full ∧ phs b l (i + 1) = []) ∨ f = .own; rw [ep]; exact hff⟩, by show [_, _, _, V.arr ((phs b l (i + 1)).map prV) f, I (phF b l (i + 1) : Nat), _] = _; rw [ef, ep]; rfl, rfl, by show n - (i + 1) < n - i; omega⟩
  ·rw [hc, if_pos rfl] at ef ep
   repeat (first | (with_reducible first | refine Ju.go ?_ | (refine Hd.go ?_; intro K Q hK hQ; simp only [if_true, List.getD_cons_succ, List.getD_cons_zero, nod_imm, Try.underlying3, e_add, r1, true_and, e_bd1, okE_I, Nat.zero_add, lv_cons, List.length_nil, Nat.reduceAdd, Nat.reduceLeDiff, cl_imm, spl_0, spl_n, spl_s, e_bd0, own0_imm, nod_agg, List.map_cons, nodL_imm, List.map_nil]; subst hK hQ) | refine Jr.go ?_) | refine sd ?_)
   refine Eq.mpr (bs_pr (phF b l i : Nat) ((i : Int) + 1) _ _) ?_
   refine Eq.mpr (e_appE prV (fun _ => rfl) 16 (phs b l i) [(phF b l i, i + 1)] f .full) ⟨hap, by simp; omega, ?_⟩
   rw [← ep]
   repeat (first | (with_reducible first | refine Ju.go ?_ | (refine Hd.go ?_; intro K Q hK hQ; simp only [List.getD_cons_succ, List.getD_cons_zero, nod_imm, Try.underlying3, e_add, r1, true_and]; subst hK hQ) | refine Jr.go ?_) | refine sd ?_)
   exact ⟨(i + 1, .own), ⟨hlt, rfl, .inr rfl⟩, by show [_, _, _, V.arr ((phs b l (i + 1)).map prV) .own, I (phF b l (i + 1) : Nat), _] = _; rw [ef]; rfl, rfl, by show n - (i + 1) < n - i; omega⟩
 ·have d : ¬ (i : Int) < n := by omega
  obtain rfl : i = n := by omega
  repeat (first | (with_reducible first | refine Ju.go ?_ | (refine Hd.go ?_; intro K Q hK hQ; simp only [d, if_false]; subst hK hQ) | refine Jr.go ?_) | refine sd ?_)
  rcases hff with ⟨rfl, h⟩ | rfl
  ·rw [h]
   exact end1 (.full [] (bel_prs _ [] .full))
  ·exact end1 (.keep _ (bel_prs _ _ _))
theorem cutA0 (x y : Int) : cutA (Int.toNat 0) 1 false [I x, I y] = I x := rfl
theorem cutA1 (x y : Int) : cutA (Int.toNat 1) 1 false [I x, I y] = I y := rfl
theorem okWs_p {ws : List Wd} (h : okWs ws = true) : ws.length ≤ 60 ∧ ∀ w, w ∈ ws → okWd w = true := by
 unfold okWs at h
 rw [Bool.and_eq_true, decide_eq_true_eq, List.all_eq_true] at h
 exact h
def gP (hv : Nat → Bool) (n j : Nat) : Option Nat := (List.range n).find? fun k => decide (j ≤ k) && hv k
theorem gP_hit {hv : Nat → Bool} {n j : Nat} (hj : j < n) (h : hv j = true) : gP hv n j = some j := List.find?_range_eq_some.2 ⟨by rw [h, decide_eq_true (Nat.le_refl _)]; rfl, List.mem_range.2 hj, fun k hk => by rw [decide_eq_false (by omega)]; rfl⟩
theorem gP_miss {hv : Nat → Bool} {n j : Nat} (h : hv j = false) : gP hv n j = gP hv n (j + 1) := by
 unfold gP
 congr 1
 funext k
 by_cases e : k = j
 ·subst e; rw [h, Bool.and_false, Bool.and_false]
 ·rw [show decide (j ≤ k) = decide (j + 1 ≤ k) by rw [decide_eq_decide]; omega]
theorem gP_end (hv : Nat → Bool) (n : Nat) : gP hv n n = none := List.find?_range_eq_none.2 fun k hk => by rw [decide_eq_false (by omega)]; rfl
def lsP (hv : Nat → Bool) (f : Nat) : Nat → Option Nat
 | 0 => none
 | t + 1 => if f ≤ t ∧ hv t = true then some t else lsP hv f t
theorem lsP_hit {hv : Nat → Bool} {f t : Nat} (h : f ≤ t) (hh : hv t = true) : lsP hv f (t + 1) = some t := if_pos ⟨h, hh⟩
theorem lsP_miss {hv : Nat → Bool} {f t : Nat} (hh : hv t = false) : lsP hv f (t + 1) = lsP hv f t := if_neg fun h => by rw [hh] at h; cases h.2
theorem lsP_end (hv : Nat → Bool) (f : Nat) : ∀ t, t ≤ f → lsP hv f t = none
 | 0, _ => rfl
 | t + 1, h => by
  unfold lsP
  rw [if_neg (by omega), lsP_end hv f t (by omega)]
theorem lsP_is {hv : Nat → Bool} {f : Nat} : ∀ {t k : Nat}, lsP hv f t = some k → f ≤ k ∧ k < t ∧ hv k = true
 | 0, k, h => by cases h
 | t + 1, k, h => by
  unfold lsP at h
  split at h
  ·rename_i h2
   cases h
   exact ⟨h2.1, Nat.lt_succ_self _, h2.2⟩
  ·have := lsP_is h
   exact ⟨this.1, by omega, this.2.2⟩
def stB' (ws : List Wd) (i : Nat) : Bool := decide (0 ≤ (ws.getD i default).st)
def foB (ws : List Wd) (i : Nat) : Bool := (ws.getD i default).fo && stB' ws i
def coB (ws : List Wd) (i : Nat) : Bool := (ws.getD i default).co && stB' ws i
def optI (o : Option Nat) (d : Int) : Int := match o with | some k => k | none => d
def acP (ws : List Wd) (p : Nat × Nat) : Int := optI (gP (foB ws) p.2 p.1) (optI (lsP (coB ws) p.1 p.2) (optI (lsP (stB' ws) p.1 p.2) (-1)))
theorem gP_is {hv : Nat → Bool} {n j k : Nat} (h : gP hv n j = some k) : j ≤ k ∧ k < n ∧ hv k = true := by
 obtain ⟨h1, h2, -⟩ := List.find?_range_eq_some.1 h
 rw [List.mem_range] at h2
 rw [Bool.and_eq_true, decide_eq_true_eq] at h1
 exact ⟨h1.1, h2, h1.2⟩
theorem acP_is (ws : List Wd) (p : Nat × Nat) : acP ws p = -1 ∨ ∃ k : Nat, acP ws p = k ∧ p.1 ≤ k ∧ k < p.2 ∧ stB' ws k = true := by
 unfold acP
 cases h1 : gP (foB ws) p.2 p.1 with
 | some k =>
  obtain ⟨a, b, c⟩ := gP_is h1
  unfold foB at c
  rw [Bool.and_eq_true] at c
  exact .inr ⟨k, rfl, a, b, c.2⟩
 | none =>
  cases h2 : lsP (coB ws) p.1 p.2 with
  | some k =>
   obtain ⟨a, b, c⟩ := lsP_is h2
   unfold coB at c
   rw [Bool.and_eq_true] at c
   exact .inr ⟨k, rfl, a, b, c.2⟩
  | none =>
   cases h3 : lsP (stB' ws) p.1 p.2 with
   | some k =>
    obtain ⟨a, b, c⟩ := lsP_is h3
    exact .inr ⟨k, rfl, a, b, c⟩
   | none => exact .inl rfl
theorem c78 (ws : List Wd) (p : Nat × Nat) (H : Hp) (h1 : p.1 < p.2) (h2 : p.2 ≤ ws.length) (hw : ws.length ≤ 1000000) : Ret Try.prog 78 [.arr (ws.map wdV) .no, I p.1, I p.2] H (I (acP ws p)) H := by
 refine mk78 _ _ _ rfl (Nat.le_refl _) (.inl rfl) ?_
 simp only [vc78, real]
 refine loop_of (fun i : Nat => p.1 ≤ i ∧ i ≤ p.2 ∧ gP (foB ws) p.2 p.1 = gP (foB ws) p.2 i) (fun i => [.arr (ws.map wdV) .no, I p.1, I p.2, I i]) (fun _ => H) (fun i => p.2 - i) p.1 ⟨Nat.le_refl _, Nat.le_of_lt h1, rfl⟩ rfl rfl ?_
 rintro i ⟨i1, i2, i3⟩
 repeat (first | (with_reducible first | refine Ju.go ?_ | (refine Hd.go ?_; intro K Q hK hQ; simp only [List.getD_cons_succ, List.getD_cons_zero, nod_imm, Try.underlying3, e_lss, e_cond, decide_eq_true_eq]; subst hK hQ) | refine Jr.go ?_) | refine sd ?_)
 by_cases hlt : i < p.2
 ·have d : (i : Int) < p.2 := by omega
  have d2 : (i : Int) < ws.length := by omega
  have d3 : i < ws.length := by omega
  have r1 : R64 ((i : Int) + 1) := by unfold R64; omega
  have ef : foB ws i = ((ws.getD i default).fo && decide (0 ≤ (ws.getD i default).st)) := rfl
  repeat (first | (with_reducible first | refine Ju.go ?_ | (refine Hd.go ?_; intro K Q hK hQ; simp only [d, if_true, List.getD_cons_zero, nod_arr, nd_no, List.getD_cons_succ, nod_imm, ix_wd, d2, Int.toNat_natCast, true_and, nod_cptr, e_fac, Nat.reduceAdd, lv_cons, List.length_nil, Nat.zero_add, Nat.reduceLeDiff, e_ldc, Try.underlying3, e_geq, e_gT, j_tl, j_and', j_side, j_one, e_cond]; subst hK hQ) | refine Jr.go ?_) | refine sd ?_)
  rw [← ef]
  cases hf : foB ws i
  ·repeat (first | (with_reducible first | refine Ju.go ?_ | (refine Hd.go ?_; intro K Q hK hQ; simp only [Bool.false_eq_true, if_false, List.getD_cons_succ, List.getD_cons_zero, nod_imm, Try.underlying3, e_add, r1, true_and]; subst hK hQ) | refine Jr.go ?_) | refine sd ?_)
   exact ⟨i + 1, ⟨by omega, hlt, by rw [i3, gP_miss hf]⟩, rfl, rfl, by omega⟩
  ·repeat (first | (with_reducible first | refine Ju.go ?_ | (refine Hd.go ?_; intro K Q hK hQ; simp only [if_true]; subst hK hQ) | refine Jr.go ?_) | refine sd ?_)
   have e : acP ws p = i := by unfold acP; rw [i3, gP_hit hlt hf]; rfl
   rw [e]
   exact end1 (fzI _)
 ·have d : ¬ (i : Int) < p.2 := by omega
  obtain rfl : i = p.2 := by omega
  rw [gP_end] at i3
  have e0 : acP ws p = optI (lsP (coB ws) p.1 p.2) (optI (lsP (stB' ws) p.1 p.2) (-1)) := by unfold acP; rw [i3]; rfl
  rw [e0]
  have r1 : R64 ((p.2 : Int) - 1) := by unfold R64; omega
  repeat (first | (with_reducible first | refine Ju.go ?_ | (refine Hd.go ?_; intro K Q hK hQ; simp only [d, if_false, List.getD_cons_succ, List.getD_cons_zero, nod_imm, Try.underlying3, e_sub, r1, true_and]; subst hK hQ) | refine Jr.go ?_) | refine sd ?_)
  refine loop_of (fun j : Nat => p.1 ≤ j ∧ j ≤ p.2 ∧ lsP (coB ws) p.1 p.2 = lsP (coB ws) p.1 j) (fun j => [.arr (ws.map wdV) .no, I p.1, I p.2, I ((j : Int) - 1)]) (fun _ => H) (fun j => j) p.2 ⟨Nat.le_of_lt h1, Nat.le_refl _, rfl⟩ rfl rfl ?_
  rintro j ⟨j1, j2, j3⟩
  repeat (first | (with_reducible first | refine Ju.go ?_ | (refine Hd.go ?_; intro K Q hK hQ; simp only [List.getD_cons_succ, List.getD_cons_zero, nod_imm, Try.underlying3, e_geq, e_cond, decide_eq_true_eq]; subst hK hQ) | refine Jr.go ?_) | refine sd ?_)
  by_cases hj : p.1 < j
  ·obtain ⟨k, rfl⟩ : ∃ k, j = k + 1 := ⟨j - 1, by omega⟩
   have ek : ((k + 1 : Nat) : Int) - 1 = k := by omega
   have dk : (p.1 : Int) ≤ k := by omega
   have d2 : (k : Int) < ws.length := by omega
   have d3 : k < ws.length := by omega
   have r2 : R64 ((k : Int) - 1) := by unfold R64; omega
   have ef : coB ws k = ((ws.getD k default).co && decide (0 ≤ (ws.getD k default).st)) := rfl
   repeat (first | (with_reducible first | refine Ju.go ?_ | (refine Hd.go ?_; intro K Q hK hQ; simp only [ek, dk, if_true, List.getD_cons_zero, nod_arr, nd_no, List.getD_cons_succ, nod_imm, ix_wd, d2, Int.toNat_natCast, true_and, nod_cptr, e_fac, Nat.reduceAdd, lv_cons, List.length_nil, Nat.zero_add, Nat.reduceLeDiff, e_ldc, Try.underlying3, e_geq, e_gT, j_tl, j_and', j_side, j_one, e_cond]; subst hK hQ) | refine Jr.go ?_) | refine sd ?_)
   rw [← ef]
   cases hf : coB ws k
   ·repeat (first | (with_reducible first | refine Ju.go ?_ | (refine Hd.go ?_; intro K Q hK hQ; simp only [Bool.false_eq_true, if_false, List.getD_cons_succ, List.getD_cons_zero, nod_imm, Try.underlying3, e_sub, r2, true_and]; subst hK hQ) | refine Jr.go ?_) | refine sd ?_)
    exact ⟨k, ⟨by omega, by omega, by rw [j3, lsP_miss hf]⟩, rfl, rfl, by omega⟩
   ·repeat (first | (with_reducible first | refine Ju.go ?_ | (refine Hd.go ?_; intro K Q hK hQ; simp only [if_true]; subst hK hQ) | refine Jr.go ?_) | refine sd ?_)
    rw [j3, lsP_hit (by omega) hf]
    exact end1 (fzI _)
  ·obtain rfl : p.1 = j := by omega
   have dk : ¬ (p.1 : Int) ≤ (p.1 : Int) - 1 := by omega
   rw [lsP_end _ _ _ (Nat.le_refl _)] at j3
   rw [j3]
   repeat (first | (with_reducible first | refine Ju.go ?_ | (refine Hd.go ?_; intro K Q hK hQ; simp only [dk, if_false, List.getD_cons_succ, List.getD_cons_zero, nod_imm, Try.underlying3, e_sub, r1, true_and]; subst hK hQ) | refine Jr.go ?_) | refine sd ?_)
   refine loop_of (fun j : Nat => p.1 ≤ j ∧ j ≤ p.2 ∧ lsP (stB' ws) p.1 p.2 = lsP (stB' ws) p.1 j) (fun j => [.arr (ws.map wdV) .no, I p.1, I ((j : Int) - 1)]) (fun _ => H) (fun j => j) p.2 ⟨Nat.le_of_lt h1, Nat.le_refl _, rfl⟩ rfl rfl ?_
   rintro j ⟨j1, j2, j3⟩
   repeat (first | (with_reducible first | refine Ju.go ?_ | (refine Hd.go ?_; intro K Q hK hQ; simp only [List.getD_cons_succ, List.getD_cons_zero, nod_imm, Try.underlying3, e_geq, e_cond, decide_eq_true_eq]; subst hK hQ) | refine Jr.go ?_) | refine sd ?_)
   by_cases hj : p.1 < j
   ·obtain ⟨k, rfl⟩ : ∃ k, j = k + 1 := ⟨j - 1, by omega⟩
    have ek : ((k + 1 : Nat) : Int) - 1 = k := by omega
    have dk : (p.1 : Int) ≤ k := by omega
    have d2 : (k : Int) < ws.length := by omega
    have d3 : k < ws.length := by omega
    have r2 : R64 ((k : Int) - 1) := by unfold R64; omega
    have ef : stB' ws k = decide (0 ≤ (ws.getD k default).st) := rfl
    rw [ek]
    by_cases hst : 0 ≤ (ws.getD k default).st
    ·rw [decide_eq_true hst] at ef
     repeat (first | (with_reducible first | refine Ju.go ?_ | (refine Hd.go ?_; intro K Q hK hQ; simp only [dk, if_true, List.getD_cons_zero, nod_arr, nd_no, List.getD_cons_succ, nod_imm, ix_wd, d2, Int.toNat_natCast, true_and, nod_cptr, e_fac, Nat.reduceAdd, lv_cons, List.length_nil, Nat.zero_add, Nat.reduceLeDiff, e_ldc, Try.underlying3, e_geq, hst, decide_true, e_cond]; subst hK hQ) | refine Jr.go ?_) | refine sd ?_)
     rw [j3, lsP_hit (by omega) ef]
     exact end1 (fzI _)
    ·rw [decide_eq_false hst] at ef
     repeat (first | (with_reducible first | refine Ju.go ?_ | (refine Hd.go ?_; intro K Q hK hQ; simp only [dk, if_true, List.getD_cons_zero, nod_arr, nd_no, List.getD_cons_succ, nod_imm, ix_wd, d2, Int.toNat_natCast, true_and, nod_cptr, e_fac, Nat.reduceAdd, lv_cons, List.length_nil, Nat.zero_add, Nat.reduceLeDiff, e_ldc, Try.underlying3, e_geq, hst, decide_false, e_cond, Bool.false_eq_true, if_false, e_sub, r2]; subst hK hQ) | refine Jr.go ?_) | refine sd ?_)
     exact ⟨k, ⟨by omega, by omega, by rw [j3, lsP_miss ef]⟩, rfl, rfl, by omega⟩
   ·obtain rfl : p.1 = j := by omega
    have dk : ¬ (p.1 : Int) ≤ (p.1 : Int) - 1 := by omega
    rw [lsP_end _ _ _ (Nat.le_refl _)] at j3
    rw [j3]
    repeat (first | (with_reducible first | refine Ju.go ?_ | (refine Hd.go ?_; intro K Q hK hQ; simp only [dk, if_false]; subst hK hQ) | refine Jr.go ?_) | refine sd ?_)
    exact end1 (fzI _)
def acA (ws : List Wd) (f i : Nat) : Int := optI (lsP (coB ws) f i) (optI (lsP (stB' ws) f i) (-1))
def acC (ws : List Wd) (f i : Nat) : Bool := (lsP (coB ws) f i).isSome
theorem c76 (ws : List Wd) (b : List Int) (p : Nat × Nat) (H : Hp) (h1 : p.1 < p.2) (h2 : p.2 ≤ ws.length) (hw : ws.length ≤ 1000000) : Ret Try.prog 76 [seV ws b, .agg [I p.1, I p.2]] H (I (acP ws p)) H := by
 refine mk76 _ _ rfl (Nat.le_refl _) (.inl rfl) ?_
 simp only [vc76, real]
 repeat (first | (with_reducible first | refine Ju.go ?_ | (refine Hd.go ?_; intro K Q hK hQ; simp only [nod_agg, List.map_cons, nodL_arr, nd_no, nodL_ints, List.map_nil, e_bxI, okE_agg, lv_cons, List.length_nil, Nat.zero_add, Nat.reduceAdd, all_c, ck_arr, ck_ints, all_n, Bool.and_self, and_true, true_and, nodL_imm, ck_I, nod_cptr, e_fac, Nat.reduceLeDiff, List.getD_cons_zero, e_ldc]; subst hK hQ) | refine Jr.go ?_) | refine sd ?_)
 refine loop_of (fun i : Nat => p.1 ≤ i ∧ i ≤ p.2 ∧ gP (foB ws) p.2 p.1 = gP (foB ws) p.2 i) (fun i => [.cptr (seV ws b), .cptr (.agg [I p.1, I p.2]), I (acA ws p.1 i), B (acC ws p.1 i), I i]) (fun _ => H) (fun i => p.2 - i) p.1 ⟨Nat.le_refl _, Nat.le_of_lt h1, rfl⟩ (by show [_, _, I (acA ws p.1 p.1), B (acC ws p.1 p.1), _] = _; unfold acA acC; rw [lsP_end _ _ _ (Nat.le_refl _), lsP_end _ _ _ (Nat.le_refl _)]; rfl) rfl ?_
 rintro i ⟨i1, i2, i3⟩
 repeat (first | (with_reducible first | refine Ju.go ?_ | (refine Hd.go ?_; intro K Q hK hQ; simp only [List.getD_cons_succ, List.getD_cons_zero, nod_cptr, e_fac, Nat.reduceAdd, lv_cons, List.length_nil, Nat.zero_add, Nat.reduceLeDiff, true_and, e_ldc, nod_imm, Try.underlying3, e_lss, e_cond, decide_eq_true_eq]; subst hK hQ) | refine Jr.go ?_) | refine sd ?_)
 by_cases hlt : i < p.2
 ·have d : (i : Int) < p.2 := by omega
  have d2 : (i : Int) < ws.length := by omega
  have d3 : i < ws.length := by omega
  have r1 : R64 ((i : Int) + 1) := by unfold R64; omega
  have ef : foB ws i = ((ws.getD i default).fo && stB' ws i) := rfl
  have ec : coB ws i = ((ws.getD i default).co && stB' ws i) := rfl
  have et : stB' ws i = decide (0 ≤ (ws.getD i default).st) := rfl
  repeat (first | (with_reducible first | refine Ju.go ?_ | (refine Hd.go ?_; intro K Q hK hQ; simp only [d, if_true, List.getD_cons_zero, nod_cptr, e_fac, Nat.zero_add, lv_cons, List.length_nil, Nat.reduceAdd, Nat.reduceLeDiff, true_and, e_ldcV, nod_arr, nd_no, List.getD_cons_succ, nod_imm, ix_wd, d2, Int.toNat_natCast, e_ldcA, nod_agg, List.map_cons, nodL_imm, List.map_nil, e_bxI, okE_agg, all_c, ck_I, ck_B, all_n, Bool.and_self, and_true, e_ldc, Try.underlying3, e_lss, e_cond, decide_eq_true_eq]; subst hK hQ) | refine Jr.go ?_) | refine sd ?_)
  by_cases hs : (ws.getD i default).st < 0
  ·rw [decide_eq_false (by omega)] at et
   rw [et, Bool.and_false] at ef ec
   repeat (first | (with_reducible first | refine Ju.go ?_ | (refine Hd.go ?_; intro K Q hK hQ; simp only [hs, if_true, List.getD_cons_zero, List.getD_cons_succ, nod_imm, Try.underlying3, e_add, r1, true_and]; subst hK hQ) | refine Jr.go ?_) | refine sd ?_)
   exact ⟨i + 1, ⟨by omega, hlt, by rw [i3, gP_miss ef]⟩, by unfold acA acC; rw [lsP_miss ec, lsP_miss et]; rfl, rfl, by omega⟩
  ·rw [decide_eq_true (by omega)] at et
   rw [et, Bool.and_true] at ef ec
   cases hf : (ws.getD i default).fo
   ·rw [hf] at ef
    cases hc : (ws.getD i default).co
    ·rw [hc] at ec
     cases ha : acC ws p.1 i
     ·have e1 : lsP (coB ws) p.1 i = none := by
       unfold acC at ha
       cases hh : lsP (coB ws) p.1 i with
       | none => rfl
       | some k => rw [hh] at ha; cases ha
      repeat (first | (with_reducible first | refine Ju.go ?_ | (refine Hd.go ?_; intro K Q hK hQ; simp only [hs, if_false, List.getD_cons_zero, List.getD_cons_succ, nod_cptr, e_fac, Nat.reduceAdd, lv_cons, List.length_nil, Nat.zero_add, Nat.reduceLeDiff, true_and, e_ldc, nod_imm, e_cond, Bool.false_eq_true, e_not, Bool.not_false, e_gF, cond_false, j_one, if_true, Try.underlying3, e_add, r1]; subst hK hQ) | refine Jr.go ?_) | refine sd ?_)
      exact ⟨i + 1, ⟨by omega, hlt, by rw [i3, gP_miss ef]⟩, by unfold acA acC; rw [lsP_miss ec, e1, lsP_hit i1 et]; rfl, rfl, by omega⟩
     ·obtain ⟨k, e1⟩ : ∃ k, lsP (coB ws) p.1 i = some k := by
       unfold acC at ha
       exact Option.isSome_iff_exists.1 ha
      have e2 : acA ws p.1 i = k := by unfold acA; rw [e1]; rfl
      repeat (first | (with_reducible first | refine Ju.go ?_ | (refine Hd.go ?_; intro K Q hK hQ; simp only [hs, if_false, List.getD_cons_zero, List.getD_cons_succ, nod_cptr, e_fac, Nat.reduceAdd, lv_cons, List.length_nil, Nat.zero_add, Nat.reduceLeDiff, true_and, e_ldc, nod_imm, e_cond, Bool.false_eq_true, e_not, Bool.not_true, e_gF, cond_false, j_one, Try.underlying3, e_add, r1]; subst hK hQ) | refine Jr.go ?_) | refine sd ?_)
      exact ⟨i + 1, ⟨by omega, hlt, by rw [i3, gP_miss ef]⟩, by rw [e2]; unfold acA acC; rw [lsP_miss ec, e1]; rfl, rfl, by omega⟩
    ·rw [hc] at ec
     repeat (first | (with_reducible first | refine Ju.go ?_ | (refine Hd.go ?_; intro K Q hK hQ; simp only [hs, if_false, List.getD_cons_zero, List.getD_cons_succ, nod_cptr, e_fac, Nat.reduceAdd, lv_cons, List.length_nil, Nat.zero_add, Nat.reduceLeDiff, true_and, e_ldc, nod_imm, e_cond, Bool.false_eq_true, e_not, e_gF, cond_true, j_one, if_true, Try.underlying3, e_add, r1]; subst hK hQ) | refine Jr.go ?_) | refine sd ?_)
     exact ⟨i + 1, ⟨by omega, hlt, by rw [i3, gP_miss ef]⟩, by unfold acA acC; rw [lsP_hit i1 ec]; rfl, rfl, by omega⟩
   ·rw [hf] at ef
    have e : acP ws p = i := by unfold acP; rw [i3, gP_hit hlt ef]; rfl
    rw [e]
    repeat (first | (with_reducible first | refine Ju.go ?_ | (refine Hd.go ?_; intro K Q hK hQ; simp only [hs, if_false, List.getD_cons_zero, List.getD_cons_succ, nod_cptr, e_fac, Nat.reduceAdd, lv_cons, List.length_nil, Nat.zero_add, Nat.reduceLeDiff, true_and, e_ldc, nod_imm, e_cond, if_true]; subst hK hQ) | refine Jr.go ?_) | refine sd ?_)
    exact end1 (fzI _)
 ·have d : ¬ (i : Int) < p.2 := by omega
  obtain rfl : i = p.2 := by omega
  rw [gP_end] at i3
  have e0 : acP ws p = acA ws p.1 p.2 := by unfold acP acA; rw [i3]; rfl
  rw [e0]
  repeat (first | (with_reducible first | refine Ju.go ?_ | (refine Hd.go ?_; intro K Q hK hQ; simp only [d, if_false]; subst hK hQ) | refine Jr.go ?_) | refine sd ?_)
  exact end1 (fzI _)
def laP (n : Nat) (b : List Int) (act : Int) (p : Nat × Nat) : Int :=
 if p.2 = n then (if act = 2 then 3 else if act = 4 then 5 else 4)
 else if act = 3 then 3 else if b.getD (p.2 - 1) 0 = 2 then 4 else 5
theorem c77 (ws : List Wd) (b : List Int) (act : Int) (p : Nat × Nat) (H : Hp) (h1 : p.1 < p.2) (h2 : p.2 ≤ ws.length) (hw : ws.length ≤ 1000000) (hb : b.length = ws.length - 1) : Ret Try.prog 77 [seV ws b, .agg [I p.1, I p.2], I act] H (I (laP ws.length b act p)) H := by
 refine mk77 _ _ _ rfl (Nat.le_refl _) (.inl rfl) ?_
 simp only [vc77, real]
 unfold laP
 by_cases he : p.2 = ws.length
 ·have d : (p.2 : Int) = ws.length := by omega
  rw [if_pos he]
  by_cases h2 : act = 2
  ·rw [if_pos h2]
   repeat (first | (with_reducible first | refine Ju.go ?_ | (refine Hd.go ?_; intro K Q hK hQ; simp only [nod_agg, List.map_cons, nodL_arr, nd_no, nodL_ints, List.map_nil, e_bxI, okE_agg, lv_cons, List.length_nil, Nat.zero_add, Nat.reduceAdd, all_c, ck_arr, ck_ints, all_n, Bool.and_self, and_true, true_and, d, nodL_imm, ck_I, nod_cptr, e_fac, Nat.reduceLeDiff, List.getD_cons_succ, List.getD_cons_zero, e_ldc, e_ldcV, nod_arr, e_lenA, List.length_map, nod_imm, Try.underlying3, e_eql, decide_true, e_cond, if_true, h2]; subst hK hQ) | refine Jr.go ?_) | refine sd ?_)
   exact end1 (fzI _)
  ·rw [if_neg h2]
   by_cases h4 : act = 4
   ·rw [if_pos h4]
    repeat (first | (with_reducible first | refine Ju.go ?_ | (refine Hd.go ?_; intro K Q hK hQ; simp only [nod_agg, List.map_cons, nodL_arr, nd_no, nodL_ints, List.map_nil, e_bxI, okE_agg, lv_cons, List.length_nil, Nat.zero_add, Nat.reduceAdd, all_c, ck_arr, ck_ints, all_n, Bool.and_self, and_true, true_and, d, nodL_imm, ck_I, nod_cptr, e_fac, Nat.reduceLeDiff, List.getD_cons_succ, List.getD_cons_zero, e_ldc, e_ldcV, nod_arr, e_lenA, List.length_map, nod_imm, Try.underlying3, e_eql, decide_true, e_cond, if_true, h4, Int.reduceEq, decide_false, Bool.false_eq_true, if_false]; subst hK hQ) | refine Jr.go ?_) | refine sd ?_)
    exact end1 (fzI _)
   ·rw [if_neg h4]
    repeat (first | (with_reducible first | refine Ju.go ?_ | (refine Hd.go ?_; intro K Q hK hQ; simp only [nod_agg, List.map_cons, nodL_arr, nd_no, nodL_ints, List.map_nil, e_bxI, okE_agg, lv_cons, List.length_nil, Nat.zero_add, Nat.reduceAdd, all_c, ck_arr, ck_ints, all_n, Bool.and_self, and_true, true_and, d, nodL_imm, ck_I, nod_cptr, e_fac, Nat.reduceLeDiff, List.getD_cons_succ, List.getD_cons_zero, e_ldc, e_ldcV, nod_arr, e_lenA, List.length_map, nod_imm, Try.underlying3, e_eql, decide_true, e_cond, if_true, h2, decide_false, Bool.false_eq_true, if_false, h4]; subst hK hQ) | refine Jr.go ?_) | refine sd ?_)
    exact end1 (fzI _)
 ·have d : ¬ (p.2 : Int) = ws.length := by omega
  rw [if_neg he]
  by_cases h3 : act = 3
  ·rw [if_pos h3]
   repeat (first | (with_reducible first | refine Ju.go ?_ | (refine Hd.go ?_; intro K Q hK hQ; simp only [nod_agg, List.map_cons, nodL_arr, nd_no, nodL_ints, List.map_nil, e_bxI, okE_agg, lv_cons, List.length_nil, Nat.zero_add, Nat.reduceAdd, all_c, ck_arr, ck_ints, all_n, Bool.and_self, and_true, true_and, nodL_imm, ck_I, nod_cptr, e_fac, Nat.reduceLeDiff, List.getD_cons_succ, List.getD_cons_zero, e_ldc, e_ldcV, nod_arr, e_lenA, List.length_map, nod_imm, Try.underlying3, e_eql, d, decide_false, e_cond, Bool.false_eq_true, if_false, h3, decide_true, if_true]; subst hK hQ) | refine Jr.go ?_) | refine sd ?_)
   exact end1 (fzI _)
  ·rw [if_neg h3]
   have r1 : R64 ((p.2 : Int) - 1) := by unfold R64; omega
   have e1 : ((p.2 : Int) - 1).toNat = p.2 - 1 := by omega
   have g0 : 0 ≤ (p.2 : Int) - 1 := by omega
   have g1 : (p.2 : Int) - 1 < b.length := by omega
   by_cases h5 : b.getD (p.2 - 1) 0 = 2
   ·rw [if_pos h5]
    repeat (first | (with_reducible first | refine Ju.go ?_ | (refine Hd.go ?_; intro K Q hK hQ; simp only [nod_agg, List.map_cons, nodL_arr, nd_no, nodL_ints, List.map_nil, e_bxI, okE_agg, lv_cons, List.length_nil, Nat.zero_add, Nat.reduceAdd, all_c, ck_arr, ck_ints, all_n, Bool.and_self, and_true, true_and, nodL_imm, ck_I, nod_cptr, e_fac, Nat.reduceLeDiff, List.getD_cons_succ, List.getD_cons_zero, e_ldc, e_ldcV, nod_arr, e_lenA, List.length_map, nod_imm, Try.underlying3, e_eql, d, decide_false, e_cond, Bool.false_eq_true, if_false, h3, e_ldci, e_sub, r1, nod_ints, e_ix, g0, g1, e1, h5, decide_true, if_true]; subst hK hQ) | refine Jr.go ?_) | refine sd ?_)
    exact end1 (fzI _)
   ·rw [if_neg h5]
    repeat (first | (with_reducible first | refine Ju.go ?_ | (refine Hd.go ?_; intro K Q hK hQ; simp only [nod_agg, List.map_cons, nodL_arr, nd_no, nodL_ints, List.map_nil, e_bxI, okE_agg, lv_cons, List.length_nil, Nat.zero_add, Nat.reduceAdd, all_c, ck_arr, ck_ints, all_n, Bool.and_self, and_true, true_and, nodL_imm, ck_I, nod_cptr, e_fac, Nat.reduceLeDiff, List.getD_cons_succ, List.getD_cons_zero, e_ldc, e_ldcV, nod_arr, e_lenA, List.length_map, nod_imm, Try.underlying3, e_eql, d, decide_false, e_cond, Bool.false_eq_true, if_false, h3, e_ldci, e_sub, r1, nod_ints, e_ix, g0, g1, e1, h5]; subst hK hQ) | refine Jr.go ?_) | refine sd ?_)
    exact end1 (fzI _)
def mkA (ws : List Wd) (p : Nat × Nat) : List Sy3 := if 0 ≤ acP ws p then [⟨acP ws p, (ws.getD (acP ws p).toNat default).st, if (ws.getD (acP ws p).toNat default).fo = true then 2 else 1⟩] else []
def mkE (ws : List Wd) (b : List Int) (act : Int) (p : Nat × Nat) : Sy3 := ⟨(p.2 : Int) - 1, (ws.getD (p.2 - 1) default).sy - 1, laP ws.length b act p⟩
def mks (ws : List Wd) (b : List Int) (act : Int) (ps : List (Nat × Nat)) : List Sy3 := ps.flatMap fun p => mkA ws p ++ [mkE ws b act p]
theorem mks_snoc (ws : List Wd) (b : List Int) (act : Int) (ps : List (Nat × Nat)) (p : Nat × Nat) : mks ws b act (ps ++ [p]) = mks ws b act ps ++ mkA ws p ++ [mkE ws b act p] := by
 unfold mks; rw [List.flatMap_append, List.flatMap_singleton, List.append_assoc]
theorem mkA_len (ws : List Wd) (p : Nat × Nat) : (mkA ws p).length ≤ 1 := by unfold mkA; split <;> simp
theorem mks_len (ws : List Wd) (b : List Int) (act : Int) (ps : List (Nat × Nat)) : (mks ws b act ps).length ≤ 2 * ps.length := by
 unfold mks
 induction ps with
 | nil => simp
 | cons p ps ih =>
  have := mkA_len ws p
  simp only [List.flatMap_cons, List.length_append, List.length_cons, List.length_nil]
  omega
theorem phs_last (b : List Int) (l : Int) (n : Nat) (hb : b.length = n - 1) {j : Nat} (hj : j < (phs b l n).length) : j + 1 = (phs b l n).length ↔ ((phs b l n).getD j default).2 = n := by
 cases n with
 | zero => cases hj
 | succ m =>
  have hc : cutB b l m = true := by
   unfold cutB
   rw [decide_eq_false (show ¬ m < b.length by omega)]; rfl
  have e : phs b l (m + 1) = phs b l m ++ [(phF b l m, m + 1)] := by
   show (if cutB b l m = true then _ else _) = _
   rw [if_pos hc]
  rw [e] at hj ⊢
  rw [List.length_append, List.length_singleton] at hj ⊢
  by_cases h : j < (phs b l m).length
  ·have hm := getD_memA (phs b l m) default h
   have hle := (phs_mem b l m _ hm).2
   rw [List.getD_eq_getElem?_getD, List.getElem?_append_left h, ← List.getD_eq_getElem?_getD]
   omega
  ·obtain rfl : j = (phs b l m).length := by omega
   rw [List.getD_eq_getElem?_getD, List.getElem?_append_right (Nat.le_refl _), Nat.sub_self]
   exact ⟨fun _ => rfl, fun _ => rfl⟩
theorem okWd_p {w : Wd} (h : okWd w = true) : (1 ≤ w.sy ∧ w.sy ≤ 20) ∧ (-1 ≤ w.st ∧ w.st ≤ w.sy - 1) ∧ 0 ≤ w.gp ∧ w.gp ≤ 20 := by
 unfold okWd at h
 simp only [Bool.and_eq_true, inB_iff] at h
 exact ⟨h.1.1, h.1.2, h.2⟩
theorem c46 (ws : List Wd) (b : List Int) (act : Int) (H : Hp) (hw : okWs ws = true) (hb : okBr b ws.length = true) (ha : 1 ≤ act ∧ act ≤ 4) : Ret Try.prog 46 [.arr (ws.map wdV) .no, ints b .no, I act] H (.arr ((mks ws b act (phs b 1 ws.length)).map syV) .no) H := by
 obtain ⟨hwl, hwm⟩ := okWs_p hw
 have hb2 := hb
 unfold okBr at hb2
 rw [Bool.and_eq_true, decide_eq_true_eq] at hb2
 have hbl := hb2.1
 refine mk46 _ _ _ rfl (Nat.le_refl _) (.inl rfl) ?_
 simp only [vc46, real]
 repeat (first | (with_reducible first | refine Ju.go ?_ | (refine Hd.go ?_; intro K Q hK hQ; simp only [nod_arr, nd_no, e_lenA, List.length_map, nod_ints, nod_imm]; subst hK hQ) | refine Jr.go ?_) | refine sd ?_)
 refine call_of (c47 b ws.length 1 H (by omega) hbl) ?_
 have hps := phs_mem b 1 ws.length
 have hpl := phs_len b 1 ws.length
 have hla := @phs_last b 1 ws.length hbl
 generalize phs b 1 ws.length = ps at *
 repeat (first | (with_reducible first | refine Ju.go ?_ | (refine Hd.go ?_; intro K Q hK hQ; simp only []; subst hK hQ) | refine Jr.go ?_) | refine sd ?_)
 refine loop_of (fun q : Nat × Fl => q.1 ≤ ps.length ∧ q.2.ap = true ∧ ((q.2 = .full ∧ q.1 = 0) ∨ q.2 = .own)) (fun q => [.arr (ws.map wdV) .no, ints b .no, I act, .arr ((mks ws b act (ps.take q.1)).map syV) q.2, .arr (ps.map prV) .no, I q.1]) (fun _ => H) (fun q => ps.length - q.1) (0, .full) ⟨Nat.zero_le _, rfl, .inl ⟨rfl, rfl⟩⟩ rfl rfl ?_
 rintro ⟨i, f⟩ ⟨hi, hap, hff⟩
 simp only at hi hap hff ⊢
 have hml := mks_len ws b act (ps.take i)
 repeat (first | (with_reducible first | refine Ju.go ?_ | (refine Hd.go ?_; intro K Q hK hQ; simp only [List.getD_cons_succ, List.getD_cons_zero, nod_arr, nd_no, e_lenA, List.length_map, nod_imm, Try.underlying3, e_lss, e_cond, decide_eq_true_eq]; subst hK hQ) | refine Jr.go ?_) | refine sd ?_)
 by_cases hlt : i < ps.length
 ·have d : (i : Int) < ps.length := by omega
  obtain ⟨p1, p2⟩ := hps _ (getD_memA ps default hlt)
  have hl2 : (mks ws b act (ps.take i)).length ≤ 120 := by rw [List.length_take] at hml; omega
  have es : mks ws b act (ps.take (i + 1)) = mks ws b act (ps.take i) ++ mkA ws (ps.getD i default) ++ [mkE ws b act (ps.getD i default)] := by
   rw [take_snocA ps default hlt, mks_snoc]
  have hlast := hla hlt
  have hgm : (ps.map prV).getD (i : Int).toNat V.junk = prV (ps.getD i default) := by
   rw [Int.toNat_natCast, List.getD_eq_getElem?_getD, List.getElem?_map, List.getElem?_eq_getElem hlt, List.getD_eq_getElem?_getD, List.getElem?_eq_getElem hlt]; rfl
  have hgm2 : (ps.map prV).getD i V.junk = prV (ps.getD i default) := by rw [← hgm, Int.toNat_natCast]
  have hcl : ((ps.map prV).getD (i : Int).toNat V.junk).cl.length = 2 := by rw [hgm]; rfl
  repeat (first | (with_reducible first | refine Ju.go ?_ | (refine Hd.go ?_; intro K Q hK hQ; simp only [d, if_true, List.getD_cons_succ, List.getD_cons_zero, nod_arr, nd_no, nod_imm, ix_pr, Int.toNat_natCast, true_and, nod_cptr, Nat.mul_one, hgm2]; subst hK hQ) | refine Jr.go ?_) | refine sd ?_)
  generalize hg : ps.getD i default = p at *
  repeat (first | (with_reducible first | refine Ju.go ?_ | (refine Hd.go ?_; intro K Q hK hQ; simp only [cutA1, e_ldc, List.getD_cons_zero, nod_arr, nd_no, cutA0, nod_imm]; subst hK hQ) | refine Jr.go ?_) | refine sd ?_)
  refine call_ofD (c78 ws p H p1 p2 (by omega)) ?_
  repeat (first | (with_reducible first | refine Ju.go ?_ | (refine Hd.go ?_; intro K Q hK hQ; simp only [List.getD_cons_zero, List.getD_cons_succ, nod_imm, Try.underlying3, e_geq, e_cond, decide_eq_true_eq]; subst hK hQ) | refine Jr.go ?_) | refine sd ?_)
  generalize hR15 : Rn _ = R15
  have key15 : ∀ f' : Fl, f'.ap = true → R15 [.arr (ws.map wdV) .no, ints b .no, I act, .arr ((mks ws b act (ps.take i) ++ mkA ws p).map syV) f', .arr (ps.map prV) .no, I i] H := by
   intro f' hap'
   subst hR15
   have hmA := mkA_len ws p
   have hlA : (mks ws b act (ps.take i) ++ mkA ws p).length ≤ 121 := by rw [List.length_append]; omega
   have r1 : R64 ((p.2 : Int) - 1) := by unfold R64; omega
   have e1 : ((p.2 : Int) - 1).toNat = p.2 - 1 := by omega
   have g0 : 0 ≤ (p.2 : Int) - 1 := by omega
   have g1 : (p.2 : Int) - 1 < ws.length := by omega
   have hwd := okWd_p (hwm _ (getD_memA ws default (show p.2 - 1 < ws.length by omega)))
   have r2 : R64 ((ws.getD (p.2 - 1) default).sy - 1) := by unfold R64; omega
   have r3 : R64 ((ps.length : Int) - 1) := by unfold R64; omega
   repeat (first | (with_reducible first | refine Ju.go ?_ | (refine Hd.go ?_; intro K Q hK hQ; simp only [List.getD_cons_succ, List.getD_cons_zero, nod_arr, nd_no, nod_imm, ix_pr, d, Int.toNat_natCast, hg, true_and, nod_cptr, Nat.mul_one, cutA1, e_ldc, Try.underlying3, e_sub, r1, e_lenA, List.length_map, r3, e_eql, nod_nod, e_gF, j_or', e_gT, j_and', j_one, e_cond]; subst hK hQ) | refine Jr.go ?_) | refine sd ?_)
   generalize hR23 : Rn _ = R23
   have key23 : R23 [.arr (ws.map wdV) .no, ints b .no, I act, .arr ((mks ws b act (ps.take i) ++ mkA ws p).map syV) f', .arr (ps.map prV) .no, I i, I ((p.2 : Int) - 1), I (laP ws.length b act p)] H := by
    subst hR23
    repeat (first | (with_reducible first | refine Ju.go ?_ | (refine Hd.go ?_; intro K Q hK hQ; simp only [List.getD_cons_zero, nod_arr, nd_no, List.getD_cons_succ, nod_imm, ix_wd, g0, g1, e1, true_and, nod_cptr, e_fac, Nat.zero_add, lv_cons, List.length_nil, Nat.reduceAdd, Nat.reduceLeDiff, e_ldc, Try.underlying3, e_sub, r2, e_bd1, okE_I, cl_imm, spl_0, spl_n, spl_s, e_bd0, own0_imm, nod_agg, List.map_cons, nodL_imm, List.map_nil]; subst hK hQ) | refine Jr.go ?_) | refine sd ?_)
    refine Eq.mpr (bs_sy ⟨(p.2 : Int) - 1, (ws.getD (p.2 - 1) default).sy - 1, laP ws.length b act p⟩ _ _) ?_
    refine Eq.mpr (e_appE syV (fun _ => rfl) 24 (mks ws b act (ps.take i) ++ mkA ws p) [mkE ws b act p] f' .full) ⟨hap', by simp only [List.length_append, List.length_singleton] at hlA ⊢; omega, ?_⟩
    rw [← es]
    repeat (first | (with_reducible first | refine Ju.go ?_ | (refine Hd.go ?_; intro K Q hK hQ; simp only [List.getD_cons_zero, List.getD_cons_succ, nod_imm, Try.underlying3, e_add]; subst hK hQ) | refine Jr.go ?_) | refine sd ?_)
    exact ⟨(i + 1, .own), ⟨hlt, rfl, .inr rfl⟩, rfl, rfl, by show ps.length - (i + 1) < ps.length - i; omega⟩
   by_cases hL : p.2 = ws.length
   ·have dL : (i : Int) = (ps.length : Int) - 1 := by have := hlast.2 hL; omega
    by_cases h2 : act = 2
    ·have e1 : (decide ((i : Int) = (ps.length : Int) - 1) && (decide (act = 1) || decide (act = 3))) = false := by
      rw [decide_eq_false (show ¬ act = 1 by omega), decide_eq_false (show ¬ act = 3 by omega), Bool.or_false, Bool.and_false]
     have e2 : (decide ((i : Int) = (ps.length : Int) - 1) && decide (act = 2)) = true := by rw [decide_eq_true dL, decide_eq_true h2]; rfl
     have el : laP ws.length b act p = 3 := by unfold laP; rw [if_pos hL, if_pos h2]
     rw [el] at key23
     repeat (first | (with_reducible first | refine Ju.go ?_ | (refine Hd.go ?_; intro K Q hK hQ; simp only [e1, Bool.false_eq_true, if_false, List.getD_cons_succ, List.getD_cons_zero, nod_arr, nd_no, e_lenA, List.length_map, nod_imm, Try.underlying3, e_sub, r3, true_and, e_eql, e_gT, j_and', e2, j_one, e_cond, if_true]; subst hK hQ) | refine Jr.go ?_) | refine sd ?_)
     exact key23
    ·by_cases h4 : act = 4
     ·have e1 : (decide ((i : Int) = (ps.length : Int) - 1) && (decide (act = 1) || decide (act = 3))) = false := by
       rw [decide_eq_false (show ¬ act = 1 by omega), decide_eq_false (show ¬ act = 3 by omega), Bool.or_false, Bool.and_false]
      have e2 : (decide ((i : Int) = (ps.length : Int) - 1) && decide (act = 2)) = false := by rw [decide_eq_false h2, Bool.and_false]
      have el : laP ws.length b act p = 5 := by unfold laP; rw [if_pos hL, if_neg h2, if_pos h4]
      rw [el] at key23
      repeat (first | (with_reducible first | refine Ju.go ?_ | (refine Hd.go ?_; intro K Q hK hQ; simp only [e1, Bool.false_eq_true, if_false, List.getD_cons_succ, List.getD_cons_zero, nod_arr, nd_no, e_lenA, List.length_map, nod_imm, Try.underlying3, e_sub, r3, true_and, e_eql, e_gT, j_and', e2, j_one, e_cond, decide_eq_true_eq]; subst hK hQ) | refine Jr.go ?_) | refine sd ?_)
      repeat (first | (with_reducible first | refine Ju.go ?_ | (refine Hd.go ?_; intro K Q hK hQ; simp only [dL, if_true]; subst hK hQ) | refine Jr.go ?_) | refine sd ?_)
      exact key23
     ·have e1 : (decide ((i : Int) = (ps.length : Int) - 1) && (decide (act = 1) || decide (act = 3))) = true := by
       rw [decide_eq_true dL, Bool.true_and, Bool.or_eq_true, decide_eq_true_eq, decide_eq_true_eq]; omega
      have el : laP ws.length b act p = 4 := by unfold laP; rw [if_pos hL, if_neg h2, if_neg h4]
      rw [el] at key23
      repeat (first | (with_reducible first | refine Ju.go ?_ | (refine Hd.go ?_; intro K Q hK hQ; simp only [e1, if_true]; subst hK hQ) | refine Jr.go ?_) | refine sd ?_)
      exact key23
   ·have dL : ¬ (i : Int) = (ps.length : Int) - 1 := fun h => hL (hlast.1 (by omega))
    have e1 : (decide ((i : Int) = (ps.length : Int) - 1) && (decide (act = 1) || decide (act = 3))) = false := by rw [decide_eq_false dL, Bool.false_and]
    have e2 : (decide ((i : Int) = (ps.length : Int) - 1) && decide (act = 2)) = false := by rw [decide_eq_false dL, Bool.false_and]
    by_cases h3 : act = 3
    ·have el : laP ws.length b act p = 3 := by unfold laP; rw [if_neg hL, if_pos h3]
     rw [el] at key23
     repeat (first | (with_reducible first | refine Ju.go ?_ | (refine Hd.go ?_; intro K Q hK hQ; simp only [dL, decide_false, Bool.false_and, Bool.false_eq_true, if_false, List.getD_cons_succ, List.getD_cons_zero, nod_arr, nd_no, e_lenA, List.length_map, nod_imm, Try.underlying3, e_sub, r3, true_and, e_eql, e_gT, cond_false, j_one, e_cond, decide_eq_true_eq]; subst hK hQ) | refine Jr.go ?_) | refine sd ?_)
     repeat (first | (with_reducible first | refine Ju.go ?_ | (refine Hd.go ?_; intro K Q hK hQ; simp only [h3, if_true]; subst hK hQ) | refine Jr.go ?_) | refine sd ?_)
     exact key23
    ·have e5 : ((p.2 : Int) - 1).toNat = p.2 - 1 := by omega
     have g2 : (p.2 : Int) - 1 < b.length := by omega
     by_cases h5 : b.getD (p.2 - 1) 0 = 2
     ·have el : laP ws.length b act p = 4 := by unfold laP; rw [if_neg hL, if_neg h3, if_pos h5]
      rw [el] at key23
      repeat (first | (with_reducible first | refine Ju.go ?_ | (refine Hd.go ?_; intro K Q hK hQ; simp only [dL, decide_false, h3, Bool.or_false, Bool.false_and, Bool.false_eq_true, if_false, List.getD_cons_succ, List.getD_cons_zero, nod_arr, nd_no, e_lenA, List.length_map, nod_imm, Try.underlying3, e_sub, r3, true_and, e_eql, e_gT, cond_false, j_one, e_cond, nod_ints, e_ix, g0, g2, e5, h5, nod_cptr, e_ldc, decide_true, if_true]; subst hK hQ) | refine Jr.go ?_) | refine sd ?_)
      exact key23
     ·have el : laP ws.length b act p = 5 := by unfold laP; rw [if_neg hL, if_neg h3, if_neg h5]
      rw [el] at key23
      repeat (first | (with_reducible first | refine Ju.go ?_ | (refine Hd.go ?_; intro K Q hK hQ; simp only [dL, decide_false, h3, Bool.or_false, Bool.false_and, Bool.false_eq_true, if_false, List.getD_cons_succ, List.getD_cons_zero, nod_arr, nd_no, e_lenA, List.length_map, nod_imm, Try.underlying3, e_sub, r3, true_and, e_eql, e_gT, cond_false, j_one, e_cond, nod_ints, e_ix, g0, g2, e5, nod_cptr, e_ldc, h5]; subst hK hQ) | refine Jr.go ?_) | refine sd ?_)
      exact key23
  by_cases hge : 0 ≤ acP ws p
  ·rcases acP_is ws p with hk | ⟨k, hk, k1, k2, k3⟩
   ·rw [hk] at hge; omega
   ·have d2 : (k : Int) < ws.length := by omega
    have d3 : k < ws.length := by omega
    have hm : mkA ws p = [⟨k, (ws.getD k default).st, if (ws.getD k default).fo = true then 2 else 1⟩] := by
     unfold mkA
     rw [if_pos hge, hk, Int.toNat_natCast]
    rw [hm] at key15
    rw [hk]
    have d0 : (0 : Int) ≤ k := by omega
    have hq : ∀ t : Int, t = (if (ws.getD k default).fo = true then 2 else 1) → ∀ K : V → Prop, K (.arr ((mks ws b act (ps.take i) ++ [(⟨(k : Int), (ws.getD k default).st, t⟩ : Sy3)]).map syV) .own) → aApp 3 24 (.arr ((mks ws b act (ps.take i)).map syV) f) (.arr [.agg [I k, I (ws.getD k default).st, I t]] .full) K := fun t _ K h => by
     refine Eq.mpr (e_appE syV (fun _ => rfl) 24 (mks ws b act (ps.take i)) [(⟨(k : Int), (ws.getD k default).st, t⟩ : Sy3)] f .full) ?_
     exact ⟨hap, by simp only [List.length_singleton]; omega, h⟩
    cases hfo : (ws.getD k default).fo
    ·rw [hfo] at key15 hq
     repeat (first | (with_reducible first | refine Ju.go ?_ | (refine Hd.go ?_; intro K Q hK hQ; simp only [d0, if_true, List.getD_cons_zero, nod_arr, nd_no, List.getD_cons_succ, nod_imm, ix_wd, d2, Int.toNat_natCast, true_and, nod_cptr, e_fac, Nat.reduceAdd, hfo, lv_cons, List.length_nil, Nat.zero_add, Nat.reduceLeDiff, e_ldc, e_cond, Bool.false_eq_true, if_false, e_bd1, okE_I, cl_imm, spl_0, spl_n, spl_s, e_bd0, own0_imm, nod_agg, List.map_cons, nodL_imm, List.map_nil]; subst hK hQ) | refine Jr.go ?_) | refine sd ?_)
     refine Eq.mpr (bs_sy ⟨k, (ws.getD k default).st, 1⟩ _ _) ?_
     refine hq 1 rfl _ ?_
     repeat (first | (with_reducible first | refine Ju.go ?_ | (refine Hd.go ?_; intro K Q hK hQ; simp only []; subst hK hQ) | refine Jr.go ?_) | refine sd ?_)
     exact key15 .own rfl
    ·rw [hfo] at key15 hq
     repeat (first | (with_reducible first | refine Ju.go ?_ | (refine Hd.go ?_; intro K Q hK hQ; simp only [d0, if_true, List.getD_cons_zero, nod_arr, nd_no, List.getD_cons_succ, nod_imm, ix_wd, d2, Int.toNat_natCast, true_and, nod_cptr, e_fac, Nat.reduceAdd, hfo, lv_cons, List.length_nil, Nat.zero_add, Nat.reduceLeDiff, e_ldc, e_cond, e_bd1, okE_I, cl_imm, spl_0, spl_n, spl_s, e_bd0, own0_imm, nod_agg, List.map_cons, nodL_imm, List.map_nil]; subst hK hQ) | refine Jr.go ?_) | refine sd ?_)
     refine Eq.mpr (bs_sy ⟨k, (ws.getD k default).st, 2⟩ _ _) ?_
     refine hq 2 rfl _ ?_
     repeat (first | (with_reducible first | refine Ju.go ?_ | (refine Hd.go ?_; intro K Q hK hQ; simp only []; subst hK hQ) | refine Jr.go ?_) | refine sd ?_)
     exact key15 .own rfl
  ·have hmA : mkA ws p = [] := if_neg hge
   rw [hmA, List.append_nil] at key15
   repeat (first | (with_reducible first | refine Ju.go ?_ | (refine Hd.go ?_; intro K Q hK hQ; simp only [hge, if_false]; subst hK hQ) | refine Jr.go ?_) | refine sd ?_)
   exact key15 f hap
 ·have d : ¬ (i : Int) < ps.length := by omega
  obtain rfl : i = ps.length := by omega
  repeat (first | (with_reducible first | refine Ju.go ?_ | (refine Hd.go ?_; intro K Q hK hQ; simp only [d, if_false]; subst hK hQ) | refine Jr.go ?_) | refine sd ?_)
  rw [List.take_of_length_le (Nat.le_refl _)]
  rcases hff with ⟨rfl, h⟩ | rfl
  ·rw [List.length_eq_zero_iff.1 h]
   exact end1 (.full [] (bel_ints _ [] .full))
  ·exact end1 (.keep _ (bel_E (e := syV) (fun x => .agg _ fun c hc => by
    simp only [List.mem_cons, List.not_mem_nil, or_false] at hc
    rcases hc with rfl | rfl | rfl <;> exact .imm _) _ _))
theorem bel_sy3 (n : Nat) (l : List Sy3) (f : Fl) : Bel n (.arr (l.map syV) f) := bel_E (e := syV) (fun x => .agg _ fun c hc => by
 simp only [List.mem_cons, List.not_mem_nil, or_false] at hc
 rcases hc with rfl | rfl | rfl <;> exact .imm _) l f
structure PM (H : Hp) (lk : Blk) (out : List Sy3) (f : Fl) (G : Hp) : Prop where
 g0 : G[H.length]? = some (.cells [.arr (out.map syV) f])
 g1 : G[H.length + 1]? = some lk
 lo : ∀ c, c < H.length → G[c]? = H[c]?
theorem PM.lk' {H : Hp} {lk lk' : Blk} {out : List Sy3} {f : Fl} {G : Hp} (h : PM H lk out f G) : PM H lk' out f (G.set (H.length + 1) lk') :=
 ⟨by rw [get_ne (by omega)]; exact h.g0, List.getElem?_set_self (get_lt h.g1), fun c hc => by rw [get_ne (by omega)]; exact h.lo c hc⟩
theorem PM.put {H : Hp} {lk : Blk} {out out' : List Sy3} {f f' : Fl} {G : Hp} (h : PM H lk out f G) : PM H lk out' f' (G.set H.length (.cells [.arr (out'.map syV) f'])) :=
 ⟨List.getElem?_set_self (get_lt h.g0), by rw [get_ne (by omega)]; exact h.g1, fun c hc => by rw [get_ne (by omega)]; exact h.lo c hc⟩
theorem PM.app {H : Hp} {lk : Blk} {out : List Sy3} {f : Fl} {G : Hp} (h : PM H lk out f G) (L : List Blk) : PM H lk out f (G ++ L) :=
 ⟨get_app h.g0, get_app h.g1, fun c hc => by rw [List.getElem?_append_left (by have := get_lt h.g0; omega)]; exact h.lo c hc⟩
def mrV (ws : List Wd) (b : List Int) (act : Int) : V := if (okWs ws && okBr b ws.length && (decide (1 ≤ act) && decide (act ≤ 4))) = true then .tup [.arr ((mks ws b act (phs b 1 ws.length)).map syV) .no, I 0] else .tup [.arr [] .no, I 2]
theorem mrV_nd (ws : List Wd) (b : List Int) (act : Int) : (mrV ws b act).Nd := by unfold mrV; split <;> rfl
theorem c45 (ws : List Wd) (b : List Int) (act : Int) (H : Hp) (w0 : ws.length ≤ 9223372036854775807) (w1 : b.length ≤ 9223372036854775807) : Ret Try.prog 45 [.arr (ws.map wdV) .no, ints b .no, I act] H (mrV ws b act) H := by
 refine mk45 _ _ _ (mrV_nd ws b act) (Nat.le_refl _) (.inl rfl) ?_
 simp only [vc45, real]
 repeat (first | (with_reducible first | refine Ju.go ?_ | (refine Hd.go ?_; intro K Q hK hQ; simp only [nod_arr, nd_no, e_bxI, okE_arr, true_and, nod_imm, okE_I, nod_cptr, e_ldcV]; subst hK hQ) | refine Jr.go ?_) | refine sd ?_)
 refine call_of (c59 ws _ w0) ?_
 repeat (first | (with_reducible first | refine Ju.go ?_ | (refine Hd.go ?_; intro K Q hK hQ; simp only [nod_imm, e_not, nod_cptr, nod_ints, nd_no, e_ldcV, nod_arr, e_lenA, List.length_map, e_gF]; subst hK hQ) | refine Jr.go ?_) | refine sd ?_)
 refine jo_n (c73 b ws.length _ w0 w1) ?_
 have e1 : (!okWs ws || !okBr b ws.length || decide (act < 1) || decide (4 < act)) = !(okWs ws && okBr b ws.length && (decide (1 ≤ act) && decide (act ≤ 4))) := by
  rw [show decide (act < 1) = !decide (1 ≤ act) by rw [← decide_not, decide_eq_decide]; omega, show decide (4 < act) = !decide (act ≤ 4) by rw [← decide_not, decide_eq_decide]; omega]
  simp only [Bool.not_and, Bool.or_assoc]
 repeat (first | (with_reducible first | refine Ju.go ?_ | (refine Hd.go ?_; intro K Q hK hQ; simp only [nod_imm, nod_cptr, e_ldc, e_lss, e_gF, j_or', j_one, e_gtr, List.getD_cons_succ, List.getD_cons_zero, e_cond]; subst hK hQ) | refine Jr.go ?_) | refine sd ?_)
 rw [e1]
 cases hok : (okWs ws && okBr b ws.length && (decide (1 ≤ act) && decide (act ≤ 4)))
 ·have em : mrV ws b act = .tup [.arr [] .no, I 2] := by unfold mrV; rw [hok]; rfl
  rw [em]
  repeat (first | (with_reducible first | refine Ju.go ?_ | (refine Hd.go ?_; intro K Q hK hQ; simp only [Bool.not_false, if_true]; subst hK hQ) | refine Jr.go ?_) | refine sd ?_)
  exact end2 rfl rfl (.full [] (bel_ints _ [] .full)) (fzI _)
 ·have em : mrV ws b act = .tup [.arr ((mks ws b act (phs b 1 ws.length)).map syV) .no, I 0] := by unfold mrV; rw [hok]; rfl
  rw [em]
  rw [Bool.and_eq_true, Bool.and_eq_true, Bool.and_eq_true, decide_eq_true_eq, decide_eq_true_eq] at hok
  obtain ⟨⟨hw, hb⟩, ha⟩ := hok
  obtain ⟨hwl, hwm⟩ := okWs_p hw
  have hb2 := hb
  unfold okBr at hb2
  rw [Bool.and_eq_true, decide_eq_true_eq] at hb2
  have hbl := hb2.1
  clear w0 w1 e1 hb2
  repeat (first | (with_reducible first | refine Ju.go ?_ | (refine Hd.go ?_; intro K Q hK hQ; simp only [Bool.not_true, Bool.false_eq_true, if_false, List.getD_cons_succ, List.getD_cons_zero, nod_cptr, e_ldcV, nod_arr, nd_no, nod_ints, e_bd1, okE_arr, Nat.zero_add, lv_cons, List.length_nil, Nat.reduceAdd, Nat.reduceLeDiff, cl_arr, spl_0, spl_n, okE_ints, cl_ints, spl_s, e_bd0, true_and, own0_arr, nod_agg, List.map_cons, nodL_arr, nodL_ints, List.map_nil, e_bxI, okE_agg, all_c, ck_arr, ck_ints, all_n, Bool.and_self, and_true, e_bx, e_ldcA]; subst hK hQ) | refine Jr.go ?_) | refine sd ?_)
  refine call_of (c75 ws b 1 _) ?_
  repeat (first | (with_reducible first | refine Ju.go ?_ | (refine Hd.go ?_; intro K Q hK hQ; simp only []; subst hK hQ) | refine Jr.go ?_) | refine sd ?_)
  show aRange Try.prog (V.fn 103 _) 1 _ _ _ _
  rw [e_range]
  intro L hY hbelL
  have hl1 : ∀ a : Blk, (H ++ [a]).length = H.length + 1 := fun a => by simp
  rw [hl1] at hY hbelL ⊢
  have hstep : ∀ (pre : List (Nat × Nat)) (p : Nat × Nat) (f : Fl) (G : Hp), p.1 < p.2 → p.2 ≤ ws.length → pre.length ≤ 60 → f.ap = true → PM H (L .ready false) (mks ws b act pre) f G → RetYE Try.prog (H.length + 1) [.agg [I p.1, I p.2]] G (fun v G' => v = B true ∧ ∃ f, f.ap = true ∧ ((f = .full ∧ mks ws b act (pre ++ [p]) = []) ∨ f = .own) ∧ PM H (L .ready false) (mks ws b act (pre ++ [p])) f G') := by
   intro pre p f G h1 h2 h3 hap hP
   refine hY _ _ _ rfl hP.g1 ?_
   have hml := mks_len ws b act pre
   have hPb := hP.lk' (lk' := L .busy false)
   rw [mks_snoc]
   generalize mks ws b act pre = out at *
   repeat (first | (with_reducible first | refine Ju.go ?_ | (refine Hd.go ?_; intro K Q hK hQ; simp only [List.getD_cons_zero, nod_agg, List.map_cons, nodL_imm, List.map_nil, e_bxI, okE_agg, lv_cons, List.length_nil, Nat.zero_add, Nat.reduceAdd, all_c, ck_I, all_n, Bool.and_self, and_true, true_and]; subst hK hQ) | refine Jr.go ?_) | refine sd ?_)
   refine ⟨hP.g1, ?_⟩
   generalize G.set (H.length + 1) (L .busy false) = G1 at *
   clear hP G
   repeat (first | (with_reducible first | refine Ju.go ?_ | (refine Hd.go ?_; intro K Q hK hQ; simp only [nod_cptr, e_ldcA, lv_cons, List.length_nil, Nat.zero_add, Nat.reduceAdd, true_and, nod_agg, List.map_cons, nodL_arr, nd_no, nodL_ints, List.map_nil, nodL_imm]; subst hK hQ) | refine Jr.go ?_) | refine sd ?_)
   refine call_of (c76 ws b p G1 h1 h2 (by omega)) ?_
   repeat (first | (with_reducible first | refine Ju.go ?_ | (refine Hd.go ?_; intro K Q hK hQ; simp only [nod_imm, Try.underlying3, e_geq, e_cond, decide_eq_true_eq]; subst hK hQ) | refine Jr.go ?_) | refine sd ?_)
   generalize hR30 : Rn _ = R30
   have key30 : ∀ (f' : Fl) (G : Hp), f'.ap = true → PM H (L .busy false) (out ++ mkA ws p) f' G → R30 [.cptr (.arr (ws.map wdV) .no), .cptr (I act), .cptr (seV ws b), .ptr H.length 0, .cptr (.agg [I p.1, I p.2])] G := by
    intro f' G hap' hP
    subst hR30
    have hmA := mkA_len ws p
    have hlA : (out ++ mkA ws p).length ≤ 121 := by rw [List.length_append]; omega
    have r1 : R64 ((p.2 : Int) - 1) := by unfold R64; omega
    have e1 : ((p.2 : Int) - 1).toNat = p.2 - 1 := by omega
    have g0 : 0 ≤ (p.2 : Int) - 1 := by omega
    have g1 : (p.2 : Int) - 1 < ws.length := by omega
    have hwd := okWd_p (hwm _ (getD_memA ws default (show p.2 - 1 < ws.length by omega)))
    have r2 : R64 ((ws.getD (p.2 - 1) default).sy - 1) := by unfold R64; omega
    have hP2 : PM H (L .busy false) (out ++ mkA ws p) f'.nd (G.set H.length (.cells [.arr ((out ++ mkA ws p).map syV) f'.nd])) := hP.put
    have hP3 := hP2.put (out' := out ++ mkA ws p ++ [mkE ws b act p]) (f' := .own)
    generalize out ++ mkA ws p = ou at *
    repeat (first | (with_reducible first | refine Ju.go ?_ | (refine Hd.go ?_; intro K Q hK hQ; simp only []; subst hK hQ) | refine Jr.go ?_) | refine sd ?_)
    refine ⟨?_, ?_⟩
    ·repeat (first | (with_reducible first | refine Ju.go ?_ | (refine Hd.go ?_; intro K Q hK hQ; simp only [List.getD_cons_succ, List.getD_cons_zero, nod_cptr, e_fac, Nat.reduceAdd, lv_cons, List.length_nil, Nat.zero_add, Nat.reduceLeDiff, true_and, e_ldc, nod_imm, Try.underlying3, e_sub, r1, e_ldcV, nod_arr, nd_no, ix_wd, g0, g1, e1, r2, e_ldcA, nod_agg, List.map_cons, nodL_arr, nodL_ints, List.map_nil, nodL_imm]; subst hK hQ) | refine Jr.go ?_) | refine sd ?_)
     refine calm_of (fun H => c77 ws b act p H h1 h2 (by omega) hbl) ?_
     repeat (first | (with_reducible first | refine Ju.go ?_ | (refine Hd.go ?_; intro K Q hK hQ; simp only [List.getD_cons_succ, List.getD_cons_zero, nod_ptr, ldM_at hP.g0, Nat.zero_add, lv_cons, List.length_nil, Nat.reduceLeDiff, nodL_arr, vs_0, true_and, nod_imm, e_bd1, okE_I, Nat.reduceAdd, cl_imm, spl_0, spl_n, spl_s, e_bd0, own0_imm, nod_agg, List.map_cons, nodL_imm, List.map_nil]; subst hK hQ) | refine Jr.go ?_) | refine sd ?_)
     refine Eq.mpr (bs_sy ⟨(p.2 : Int) - 1, (ws.getD (p.2 - 1) default).sy - 1, laP ws.length b act p⟩ _ _) ?_
     refine Eq.mpr (e_appE syV (fun _ => rfl) 24 ou [mkE ws b act p] f' .full) ⟨hap', by simp only [List.length_singleton]; omega, ?_⟩
     repeat (first | (with_reducible first | refine Ju.go ?_ | (refine Hd.go ?_; intro K Q hK hQ; simp only [List.getD_cons_succ, List.getD_cons_zero, nod_ptr, st_at hP2.g0, Nat.zero_add, lv_cons, List.length_nil, Nat.reduceLeDiff, stV_arr, okE_arr, cl_arr, spl_0, spl_n, true_and]; subst hK hQ) | refine Jr.go ?_) | refine sd ?_)
     exact ⟨hP3.g1, rfl, .own, rfl, .inr rfl, hP3.lk'⟩
    ·repeat (first | (with_reducible first | refine Ju.go ?_ | (refine Hd.go ?_; intro K Q hK hQ; simp only [List.getD_cons_succ, List.getD_cons_zero, nod_ptr, ldM_at hP.g0, Nat.zero_add, lv_cons, List.length_nil, Nat.reduceLeDiff, nodL_arr, vs_0, true_and, nod_cptr, e_fac, Nat.reduceAdd, e_ldc, nod_imm, Try.underlying3, e_sub, r1, e_ldcV, nod_arr, nd_no, ix_wd, g0, g1, e1, r2, e_ldcA, nod_agg, List.map_cons, nodL_ints, List.map_nil, nodL_imm]; subst hK hQ) | refine Jr.go ?_) | refine sd ?_)
     refine calm_of (fun H => c77 ws b act p H h1 h2 (by omega) hbl) ?_
     repeat (first | (with_reducible first | refine Ju.go ?_ | (refine Hd.go ?_; intro K Q hK hQ; simp only [nod_imm, e_bd1, okE_I, Nat.zero_add, lv_cons, List.length_nil, Nat.reduceAdd, Nat.reduceLeDiff, cl_imm, spl_0, spl_n, spl_s, e_bd0, true_and, own0_imm, nod_agg, List.map_cons, nodL_imm, List.map_nil]; subst hK hQ) | refine Jr.go ?_) | refine sd ?_)
     refine Eq.mpr (bs_sy ⟨(p.2 : Int) - 1, (ws.getD (p.2 - 1) default).sy - 1, laP ws.length b act p⟩ _ _) ?_
     refine Eq.mpr (e_appE syV (fun _ => rfl) 24 ou [mkE ws b act p] f' .full) ⟨hap', by simp only [List.length_singleton]; omega, ?_⟩
     repeat (first | (with_reducible first | refine Ju.go ?_ | (refine Hd.go ?_; intro K Q hK hQ; simp only [List.getD_cons_succ, List.getD_cons_zero, nod_ptr, st_at hP2.g0, Nat.zero_add, lv_cons, List.length_nil, Nat.reduceLeDiff, stV_arr, okE_arr, cl_arr, spl_0, spl_n, true_and]; subst hK hQ) | refine Jr.go ?_) | refine sd ?_)
     exact ⟨hP3.g1, rfl, .own, rfl, .inr rfl, hP3.lk'⟩
   by_cases hge : 0 ≤ acP ws p
   ·rcases acP_is ws p with hk | ⟨k, hk, k1, k2, k3⟩
    ·rw [hk] at hge; omega
    ·have d2 : (k : Int) < ws.length := by omega
     have d3 : k < ws.length := by omega
     have d0 : (0 : Int) ≤ k := by omega
     have hm : mkA ws p = [⟨k, (ws.getD k default).st, if (ws.getD k default).fo = true then 2 else 1⟩] := by
      unfold mkA
      rw [if_pos hge, hk, Int.toNat_natCast]
     rw [hm] at key30
     rw [hk]
     repeat (first | (with_reducible first | refine Ju.go ?_ | (refine Hd.go ?_; intro K Q hK hQ; simp only [d0, if_true, Bool.not_true, List.getD_cons_succ, List.getD_cons_zero, nod_cptr, e_ldcV, nod_arr, nd_no, nod_imm, ix_wd, d2, Int.toNat_natCast, true_and, e_fac, Nat.reduceAdd, lv_cons, List.length_nil, Nat.zero_add, Nat.reduceLeDiff, e_ldc, e_bd1, okE_I, cl_imm, spl_0, spl_n, spl_s, e_bd0, e_bx, okE_agg, all_c, ck_I, all_n, Bool.and_self, and_true, cl_agg, nod_ptr, own0_imm, e_sc0, stV_agg, List.map_cons, nodL_imm, List.map_nil, e_cond]; subst hK hQ) | refine Jr.go ?_) | refine sd ?_)
     have hG1 : H.length + 1 < G1.length := get_lt hPb.g1
     have hgl : ∀ x : Blk, (G1 ++ [x])[G1.length]? = some x := fun x => tail0 _ _
     generalize hR99 : Rn _ = R99
     have key99 : ∀ t : Int, t = (if (ws.getD k default).fo = true then 2 else 1) → R99 [.cptr (.arr (ws.map wdV) .no), .cptr (I act), .cptr (seV ws b), .ptr H.length 0, .cptr (.agg [I p.1, I p.2]), .ptr G1.length 0] (G1 ++ [.cells [I k, I (ws.getD k default).st, I t]]) := by
      intro t ht
      subst hR99
      rw [← ht] at key30
      have hPx := hPb.app [Blk.cells [I k, I (ws.getD k default).st, I t]]
      have hPy : PM H (L .busy false) out f.nd ((G1 ++ [Blk.cells [I k, I (ws.getD k default).st, I t]]).set H.length (.cells [.arr (out.map syV) f.nd])) := hPx.put
      have hPz := hPy.put (out' := out ++ [⟨(k : Int), (ws.getD k default).st, t⟩]) (f' := .own)
      have hX : ((G1 ++ [Blk.cells [I k, I (ws.getD k default).st, I t]]).set H.length (.cells [.arr (out.map syV) f.nd]))[G1.length]? = some (.cells [I k, I (ws.getD k default).st, I t]) := by rw [get_ne (by omega)]; exact hgl _
      repeat (first | (with_reducible first | refine Ju.go ?_ | (refine Hd.go ?_; intro K Q hK hQ; simp only [List.getD_cons_succ, List.getD_cons_zero, nod_ptr, ldM_at hPx.g0, Nat.zero_add, lv_cons, List.length_nil, Nat.reduceLeDiff, nodL_arr, vs_0, true_and, ldA_at hX, Nat.reduceAdd, dr_0, tk_s, tk_0, nod_agg, List.map_cons, nodL_imm, List.map_nil]; subst hK hQ) | refine Jr.go ?_) | refine sd ?_)
      refine Eq.mpr (bs_sy ⟨(k : Int), (ws.getD k default).st, t⟩ _ _) ?_
      refine Eq.mpr (e_appE syV (fun _ => rfl) 24 out [⟨(k : Int), (ws.getD k default).st, t⟩] f .full) ⟨hap, by simp only [List.length_singleton]; omega, ?_⟩
      repeat (first | (with_reducible first | refine Ju.go ?_ | (refine Hd.go ?_; intro K Q hK hQ; simp only [List.getD_cons_succ, List.getD_cons_zero, nod_ptr, st_at hPy.g0, Nat.zero_add, lv_cons, List.length_nil, Nat.reduceLeDiff, stV_arr, okE_arr, cl_arr, spl_0, spl_n, true_and]; subst hK hQ) | refine Jr.go ?_) | refine sd ?_)
      exact key30 .own _ rfl hPz
     cases hfo : (ws.getD k default).fo
     ·rw [hfo] at key99
      repeat (first | (with_reducible first | refine Ju.go ?_ | (refine Hd.go ?_; intro K Q hK hQ; simp only [Bool.false_eq_true, if_false]; subst hK hQ) | refine Jr.go ?_) | refine sd ?_)
      exact key99 1 rfl
     ·rw [hfo] at key99
      repeat (first | (with_reducible first | refine Ju.go ?_ | (refine Hd.go ?_; intro K Q hK hQ; simp only [if_true, List.getD_cons_succ, List.getD_cons_zero, nod_ptr, e_fa, Nat.zero_add, st_at (hgl _), Nat.reduceAdd, lv_cons, List.length_nil, Nat.reduceLeDiff, stV_imm, okE_I, cl_imm, spl_s, spl_0, spl_n, set_last, true_and]; subst hK hQ) | refine Jr.go ?_) | refine sd ?_)
      exact key99 2 rfl
   ·have hmA : mkA ws p = [] := if_neg hge
    rw [hmA, List.append_nil] at key30
    repeat (first | (with_reducible first | refine Ju.go ?_ | (refine Hd.go ?_; intro K Q hK hQ; simp only [hge, if_false]; subst hK hQ) | refine Jr.go ?_) | refine sd ?_)
    exact key30 f G1 hap hPb
  refine RetE.mono (c103 ws b 1 (H.length + 1) _ (fun ps G => ∃ f, f.ap = true ∧ ((f = .full ∧ mks ws b act ps = []) ∨ f = .own) ∧ PM H (L .ready false) (mks ws b act ps) f G) (by omega) (by omega) ⟨.full, rfl, .inl ⟨rfl, rfl⟩, ?_⟩ ?_) ?_
  ·have := hh_0 H (.cells [.arr [] .full]) (L .ready false)
   exact ⟨this, hh_1 H (.cells [.arr [] .full]) (L .ready false), fun c hc => by rw [List.append_assoc, List.getElem?_append_left hc]⟩
  ·rintro i G hi _ ⟨f, hap, -, hP⟩
   have h1 := phF_le b 1 i
   have h2 := phs_len b 1 i
   exact hstep _ (phF b 1 i, i + 1) f G (by show phF b 1 i < i + 1; omega) hi (by omega) hap hP
  ·rintro v H2 ⟨f, hap, hff, hP⟩
   refine ⟨_, _, hP.g1, by decide, ?_⟩
   have hD := hP.lk' (lk' := .dead)
   generalize H2.set (H.length + 1) .dead = H3 at *
   show aLd 1 false false (V.ptr H.length 0).nod.nod _ _
   repeat (first | (with_reducible first | refine Ju.go ?_ | (refine Hd.go ?_; intro K Q hK hQ; simp only [nod_ptr, ld_at hD.g0, Nat.zero_add, lv_cons, List.length_nil, Nat.reduceLeDiff, List.getD_cons_zero, nod_arr, true_and]; subst hK hQ) | refine Jr.go ?_) | refine sd ?_)
   have hl3 := get_lt hD.g0
   refine end2T rfl rfl ?_ (fzI _) (take_low hD.lo (by omega))
   rcases hff with ⟨rfl, h⟩ | rfl
   ·rw [h]
    exact .full [] (bel_ints _ [] .full)
   ·exact .keep _ (bel_sy3 _ _ _)
end Go.Proofs.Ytgicpobploinhaa
