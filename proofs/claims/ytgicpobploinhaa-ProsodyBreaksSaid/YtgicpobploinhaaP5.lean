/- The machinery of the proof, part 5: an abstract machine over list values, proved sound against the model, and the contracts of the functions that the law reaches. No condition. -/
import Derived.Test.YtgicpobploinhaaP4
import Derived.Test.YtgicpobploinhaaProg
set_option linter.unusedVariables false
set_option maxRecDepth 20000
set_option maxHeartbeats 4000000
namespace Go.Proofs.Ytgicpobploinhaa
open Go Go.Ab Go.Proofs
def an41 : An := { imm := [], jn := [(4, [0, 1, 2, 7, 8])], lp := [(3, [0, 1, 2, 7, 8])], loud := [], ord := [] }
def vc41 (C : Cb) (a0 a1 a2 : V) (H : Hp) (R : List V → Hp → Prop) : Prop :=
 LoopA (fun l1 H2 K3 =>
 C.aLen (l1.getD 1 .junk).nod.nod fun v4 =>
 C.aBin (Try.prog.underlying 3) .lss (l1.getD 4 .junk).nod.nod v4.nod fun v5 =>
 aCond v5.nod (
 Jn (fun l6 H7 =>
 C.aBin (Try.prog.underlying 3) .add (l6.getD 4 .junk).nod.nod (I 1) fun v9 =>
 K3 [(l6.getD 0 .junk), (l6.getD 1 .junk), (l6.getD 2 .junk), (l6.getD 3 .junk), v9] H7)
 (fun R8 =>
 C.aIx 3 (l1.getD 1 .junk).nod.nod (l1.getD 4 .junk).nod.nod fun v10 =>
 C.aLd 3 true false v10.nod H2 fun v11 H12 =>
 C.callE 74 [(l1.getD 0 .junk).nod.nod, v11.nod, (l1.getD 2 .junk).nod.nod] H12 fun v13 H14 =>
 C.aBS 1 1 (I 0) [(0, v13.nod)] fun v15 =>
 C.aApp 1 8 (l1.getD 3 .junk) v15.nod fun v16 =>
 R8 [(l1.getD 0 .junk), (l1.getD 1 .junk), (l1.getD 2 .junk), v16, (l1.getD 4 .junk)] H14)) (
 R [(l1.getD 3 .junk).nod] H2))
 [a0, a1, a2, (V.arr [] .full), (I 0)] H
theorem wf41 : (Nat.ble 3 Try.f41.ntmps && wfC an41 Try.f41.ntmps (Try.f41.body.getD .skip)) = true := by kernel_rfl
theorem tie41 (C : Cb) (a0 a1 a2 : V) (H : Hp) (R : List V → Hp → Prop) : wpG Try.prog C an41 (Try.f41.body.getD .skip) (argF [a0, a1, a2]) H (retG Try.prog C Try.f41 R) (fun _ _ _ => False) (retG Try.prog C Try.f41 R) = vc41 C a0 a1 a2 H R := by kernel_rfl
theorem mk41 (a0 a1 a2 : V) {H : Hp} {v : V} {H1 : Hp} (hd : v.Nd) (hn : H.length ≤ H1.length) (hb : H1 = H ∨ ∀ (b : Nat) (blk : Blk), H1[b]? = some blk → H[b]? = some blk ∨ BelB H1.length blk) (h : vc41 (real Try.prog) a0 a1 a2 H (retF v H1)) : Ret Try.prog 41 [a0, a1, a2] H v H1 :=
 ret_mk (an := an41) hm Try.call41 Try.func41 rfl wf41 hd hn hb (Eq.mpr (tie41 (real Try.prog) a0 a1 a2 H (retF v H1)) h)
def an74 : An := { imm := [4], jn := [(3, [0, 2, 4, 7, 21]), (6, [0, 4, 7, 8, 9]), (10, [0, 4, 7, 8, 9, 10, 11]), (18, [0, 2, 4, 7, 12]), (20, [0, 2, 4, 7, 12, 13]), (23, [0, 2, 4, 7, 12, 100]), (26, [0, 2, 4, 7, 12, 116]), (29, [0, 2, 4, 7, 12, 129])], lp := [(5, [0, 4, 7, 8, 9]), (9, [0, 4, 7, 8, 9, 10, 11]), (17, [0, 2, 4, 7, 12])], loud := [], ord := [] }
def vc74 (C : Cb) (a0 a1 a2 : V) (H : Hp) (R : List V → Hp → Prop) : Prop :=
 C.aBx true 3 a1.nod H fun v1 H2 =>
 Jn (fun l3 H4 =>
 aCond (l3.getD 4 .junk).nod (
 C.aLen (l3.getD 0 .junk).nod.nod fun v6 =>
 C.aFA 1 1 false (l3.getD 2 .junk).nod fun v7 =>
 C.aLd 1 false false v7.nod H4 fun v8 H9 =>
 C.callE 47 [(l3.getD 1 .junk).nod.nod, v6.nod, v8.nod] H9 fun v10 H11 =>
 LoopA (fun l12 H13 K14 =>
 C.aLen (l12.getD 3 .junk).nod.nod fun v15 =>
 C.aBin (Try.prog.underlying 3) .lss (l12.getD 4 .junk).nod.nod v15.nod fun v16 =>
 aCond v16.nod (
 Jn (fun l17 H18 =>
 C.aBin (Try.prog.underlying 3) .add (l17.getD 4 .junk).nod.nod (I 1) fun v20 =>
 K14 [(l17.getD 0 .junk), (l17.getD 1 .junk), (l17.getD 2 .junk), (l17.getD 3 .junk), v20] H18)
 (fun R19 =>
 C.aIx 2 (l12.getD 3 .junk).nod.nod (l12.getD 4 .junk).nod.nod fun v21 =>
 C.aIxA 2 1 false v21.nod (I 0) fun v22 =>
 C.aLd 1 false false v22.nod H13 fun v23 H24 =>
 LoopA (fun l25 H26 K27 =>
 C.aIx 2 (l25.getD 3 .junk).nod.nod (l25.getD 4 .junk).nod.nod fun v28 =>
 C.aIxA 2 1 false v28.nod (I 1) fun v29 =>
 C.aLd 1 false false v29.nod H26 fun v30 H31 =>
 C.aBin (Try.prog.underlying 3) .lss (l25.getD 6 .junk).nod.nod v30.nod fun v32 =>
 aCond v32.nod (
 Jn (fun l33 H34 =>
 C.aBin (Try.prog.underlying 3) .add (l33.getD 6 .junk).nod.nod (I 1) fun v36 =>
 K27 [(l33.getD 0 .junk), (l33.getD 1 .junk), (l33.getD 2 .junk), (l33.getD 3 .junk), (l33.getD 4 .junk), (l33.getD 5 .junk), v36] H34)
 (fun R35 =>
 C.aIx 5 (l25.getD 0 .junk).nod.nod (l25.getD 6 .junk).nod.nod fun v37 =>
 C.aFA 0 1 false v37.nod fun v38 =>
 C.aLd 1 false false v38.nod H31 fun v39 H40 =>
 C.aBin (Try.prog.underlying 3) .add (l25.getD 5 .junk).nod.nod v39.nod fun v41 =>
 R35 [(l25.getD 0 .junk), (l25.getD 1 .junk), (l25.getD 2 .junk), (l25.getD 3 .junk), (l25.getD 4 .junk), v41, (l25.getD 6 .junk)] H40)) (
 C.aFA 0 1 false (l25.getD 1 .junk).nod fun v42 =>
 C.aLd 1 false false v42.nod H31 fun v43 H44 =>
 C.aBin (Try.prog.underlying 96) .eql v43.nod (I 1) fun v45 =>
 aCond v45.nod (
 C.aFA 2 1 false (l25.getD 1 .junk).nod fun v46 =>
 C.aLd 1 false false v46.nod H44 fun v47 H48 =>
 C.aBin (Try.prog.underlying 3) .sub (l25.getD 5 .junk).nod.nod v47.nod fun v49 =>
 C.aMM true [(I 0), v49.nod] fun v50 =>
 C.aBin (Try.prog.underlying 3) .add (l25.getD 2 .junk).nod.nod v50.nod fun v51 =>
 R19 [(l25.getD 0 .junk), (l25.getD 1 .junk), v51, (l25.getD 3 .junk), (l25.getD 4 .junk)] H48) (
 C.aFA 2 1 false (l25.getD 1 .junk).nod fun v52 =>
 C.aLd 1 false false v52.nod H44 fun v53 H54 =>
 C.aBin (Try.prog.underlying 3) .sub v53.nod (l25.getD 5 .junk).nod.nod fun v55 =>
 C.aMM true [(I 0), v55.nod] fun v56 =>
 C.aBin (Try.prog.underlying 3) .add (l25.getD 2 .junk).nod.nod v56.nod fun v57 =>
 R19 [(l25.getD 0 .junk), (l25.getD 1 .junk), v57, (l25.getD 3 .junk), (l25.getD 4 .junk)] H54)))
 [(l12.getD 0 .junk), (l12.getD 1 .junk), (l12.getD 2 .junk), (l12.getD 3 .junk), (l12.getD 4 .junk), (I 0), v23] H24)) (
 R [(l12.getD 2 .junk).nod] H13))
 [(l3.getD 0 .junk), (l3.getD 2 .junk), (l3.getD 3 .junk), v10, (I 0)] H11) (
 LoopA (fun l58 H59 K60 =>
 C.aLen (l58.getD 1 .junk).nod.nod fun v61 =>
 C.aBin (Try.prog.underlying 3) .lss (l58.getD 4 .junk).nod.nod v61.nod fun v62 =>
 aCond v62.nod (
 Jn (fun l63 H64 =>
 C.aBin (Try.prog.underlying 3) .add (l63.getD 4 .junk).nod.nod (I 1) fun v66 =>
 K60 [(l63.getD 0 .junk), (l63.getD 1 .junk), (l63.getD 2 .junk), (l63.getD 3 .junk), v66] H64)
 (fun R65 =>
 Jn (fun l67 H68 =>
 C.aFA 0 1 false (l67.getD 2 .junk).nod fun v70 =>
 C.aLd 1 false false v70.nod H68 fun v71 H72 =>
 C.aBin (Try.prog.underlying 96) .eql v71.nod (I 3) fun v73 =>
 aCond v73.nod (
 Jn (fun l74 H75 =>
 aCond (l74.getD 5 .junk).nod (
 C.aBin (Try.prog.underlying 3) .add (l74.getD 3 .junk).nod.nod (I 1) fun v77 =>
 R65 [(l74.getD 0 .junk), (l74.getD 1 .junk), (l74.getD 2 .junk), v77, (l74.getD 4 .junk)] H75) (
 R65 [(l74.getD 0 .junk), (l74.getD 1 .junk), (l74.getD 2 .junk), (l74.getD 3 .junk), (l74.getD 4 .junk)] H75))
 (fun R76 =>
 Jv (fun v78 H79 =>
 R76 [(l67.getD 0 .junk), (l67.getD 1 .junk), (l67.getD 2 .junk), (l67.getD 3 .junk), (l67.getD 4 .junk), v78] H79)
 (fun R80 =>
 aG (l67.getD 5 .junk).nod.nod true (
 C.aIx 5 (l67.getD 0 .junk).nod.nod (l67.getD 4 .junk).nod.nod fun v81 =>
 C.aFA 2 1 false v81.nod fun v82 =>
 C.aLd 1 false false v82.nod H72 fun v83 H84 =>
 C.aFA 2 1 false (l67.getD 2 .junk).nod fun v85 =>
 C.aLd 1 false false v85.nod H84 fun v86 H87 =>
 C.aBin (Try.prog.underlying 3) .lss v83.nod v86.nod fun v88 =>
 R80 v88.nod H87) (
 R80 (B false) H72)))) (
 C.aBin (Try.prog.underlying 96) .eql v71.nod (I 4) fun v89 =>
 aCond v89.nod (
 Jn (fun l90 H91 =>
 aCond (l90.getD 5 .junk).nod (
 C.aBin (Try.prog.underlying 3) .add (l90.getD 3 .junk).nod.nod (I 1) fun v93 =>
 R65 [(l90.getD 0 .junk), (l90.getD 1 .junk), (l90.getD 2 .junk), v93, (l90.getD 4 .junk)] H91) (
 R65 [(l90.getD 0 .junk), (l90.getD 1 .junk), (l90.getD 2 .junk), (l90.getD 3 .junk), (l90.getD 4 .junk)] H91))
 (fun R92 =>
 C.aUn .not (l67.getD 5 .junk).nod.nod fun v94 =>
 Jv (fun v95 H96 =>
 R92 [(l67.getD 0 .junk), (l67.getD 1 .junk), (l67.getD 2 .junk), (l67.getD 3 .junk), (l67.getD 4 .junk), v95] H96)
 (fun R97 =>
 aG v94.nod true (
 C.aIx 5 (l67.getD 0 .junk).nod.nod (l67.getD 4 .junk).nod.nod fun v98 =>
 C.aFA 2 1 false v98.nod fun v99 =>
 C.aLd 1 false false v99.nod H72 fun v100 H101 =>
 C.aFA 2 1 false (l67.getD 2 .junk).nod fun v102 =>
 C.aLd 1 false false v102.nod H101 fun v103 H104 =>
 C.aBin (Try.prog.underlying 3) .geq v100.nod v103.nod fun v105 =>
 R97 v105.nod H104) (
 R97 (B false) H72)))) (
 C.aBin (Try.prog.underlying 96) .eql v71.nod (I 5) fun v106 =>
 aCond v106.nod (
 Jn (fun l107 H108 =>
 aCond (l107.getD 5 .junk).nod (
 C.aBin (Try.prog.underlying 3) .add (l107.getD 3 .junk).nod.nod (I 1) fun v110 =>
 R65 [(l107.getD 0 .junk), (l107.getD 1 .junk), (l107.getD 2 .junk), v110, (l107.getD 4 .junk)] H108) (
 R65 [(l107.getD 0 .junk), (l107.getD 1 .junk), (l107.getD 2 .junk), (l107.getD 3 .junk), (l107.getD 4 .junk)] H108))
 (fun R109 =>
 C.aUn .not (l67.getD 5 .junk).nod.nod fun v111 =>
 Jv (fun v112 H113 =>
 R109 [(l67.getD 0 .junk), (l67.getD 1 .junk), (l67.getD 2 .junk), (l67.getD 3 .junk), (l67.getD 4 .junk), v112] H113)
 (fun R114 =>
 aG v111.nod true (
 C.aIx 5 (l67.getD 0 .junk).nod.nod (l67.getD 4 .junk).nod.nod fun v115 =>
 C.aFA 3 1 false v115.nod fun v116 =>
 C.aLd 1 false false v116.nod H72 fun v117 H118 =>
 R114 v117.nod H118) (
 R114 (B false) H72)))) (
 C.aBin (Try.prog.underlying 96) .eql v71.nod (I 6) fun v119 =>
 aCond v119.nod (
 aCond (l67.getD 5 .junk).nod.nod (
 C.aBin (Try.prog.underlying 3) .add (l67.getD 3 .junk).nod.nod (I 1) fun v120 =>
 R65 [(l67.getD 0 .junk), (l67.getD 1 .junk), (l67.getD 2 .junk), v120, (l67.getD 4 .junk)] H72) (
 R65 [(l67.getD 0 .junk), (l67.getD 1 .junk), (l67.getD 2 .junk), (l67.getD 3 .junk), (l67.getD 4 .junk)] H72)) (
 R65 [(l67.getD 0 .junk), (l67.getD 1 .junk), (l67.getD 2 .junk), (l67.getD 3 .junk), (l67.getD 4 .junk)] H72)))))
 (fun R69 =>
 C.aIx 1 (l58.getD 1 .junk).nod.nod (l58.getD 4 .junk).nod.nod fun v121 =>
 C.aLd 1 false false v121.nod H59 fun v122 H123 =>
 C.aFA 1 1 false (l58.getD 2 .junk).nod fun v124 =>
 C.aLd 1 false false v124.nod H123 fun v125 H126 =>
 C.aBin (Try.prog.underlying 3) .geq v122.nod v125.nod fun v127 =>
 R69 [(l58.getD 0 .junk), (l58.getD 1 .junk), (l58.getD 2 .junk), (l58.getD 3 .junk), (l58.getD 4 .junk), v127] H126))) (
 C.aFA 0 1 false (l58.getD 2 .junk).nod fun v128 =>
 C.aLd 1 false false v128.nod H59 fun v129 H130 =>
 C.aBin (Try.prog.underlying 96) .eql v129.nod (I 6) fun v131 =>
 aCond v131.nod (
 C.aFA 2 1 false (l58.getD 2 .junk).nod fun v132 =>
 C.aLd 1 false false v132.nod H130 fun v133 H134 =>
 C.aBin (Try.prog.underlying 3) .sub (l58.getD 3 .junk).nod.nod v133.nod fun v135 =>
 C.aMM true [(I 0), v135.nod] fun v136 =>
 R [v136] H134) (
 R [(l58.getD 3 .junk).nod] H130)))
 [(l3.getD 0 .junk), (l3.getD 1 .junk), (l3.getD 2 .junk), (l3.getD 3 .junk), (I 0)] H4))
 (fun R5 =>
 C.aFA 0 1 false v1.nod fun v137 =>
 C.aLd 1 false false v137.nod H2 fun v138 H139 =>
 C.aBin (Try.prog.underlying 96) .eql v138.nod (I 1) fun v140 =>
 Jv (fun v141 H142 =>
 R5 [a0, a2, v1, (I 0), v141] H142)
 (fun R143 =>
 aG v140.nod false (
 C.aFA 0 1 false v1.nod fun v144 =>
 C.aLd 1 false false v144.nod H139 fun v145 H146 =>
 C.aBin (Try.prog.underlying 96) .eql v145.nod (I 2) fun v147 =>
 R143 v147.nod H146) (
 R143 (B true) H139)))
theorem wf74 : (Nat.ble 3 Try.f74.ntmps && wfC an74 Try.f74.ntmps (Try.f74.body.getD .skip)) = true := by kernel_rfl
theorem tie74 (C : Cb) (a0 a1 a2 : V) (H : Hp) (R : List V → Hp → Prop) : wpG Try.prog C an74 (Try.f74.body.getD .skip) (argF [a0, a1, a2]) H (retG Try.prog C Try.f74 R) (fun _ _ _ => False) (retG Try.prog C Try.f74 R) = vc74 C a0 a1 a2 H R := by kernel_rfl
theorem mk74 (a0 a1 a2 : V) {H : Hp} {v : V} {H1 : Hp} (hd : v.Nd) (hn : H.length ≤ H1.length) (hb : H1 = H ∨ ∀ (b : Nat) (blk : Blk), H1[b]? = some blk → H[b]? = some blk ∨ BelB H1.length blk) (h : vc74 (real Try.prog) a0 a1 a2 H (retF v H1)) : Ret Try.prog 74 [a0, a1, a2] H v H1 :=
 ret_mk (an := an74) hm Try.call74 Try.func74 rfl wf74 hd hn hb (Eq.mpr (tie74 (real Try.prog) a0 a1 a2 H (retF v H1)) h)
def an75 : An := { imm := [2, 3], jn := [], lp := [], loud := [], ord := [] }
def vc75 (C : Cb) (a0 a1 : V) (H : Hp) (R : List V → Hp → Prop) : Prop :=
 C.aBx true 2 a0.nod H fun v1 H2 =>
 C.aBx true 1 a1.nod H2 fun v3 H4 =>
 R [(V.fn 103 [v1.nod, v3.nod])] H4
theorem wf75 : (Nat.ble 2 Try.f75.ntmps && wfC an75 Try.f75.ntmps (Try.f75.body.getD .skip)) = true := by kernel_rfl
theorem tie75 (C : Cb) (a0 a1 : V) (H : Hp) (R : List V → Hp → Prop) : wpG Try.prog C an75 (Try.f75.body.getD .skip) (argF [a0, a1]) H (retG Try.prog C Try.f75 R) (fun _ _ _ => False) (retG Try.prog C Try.f75 R) = vc75 C a0 a1 H R := by kernel_rfl
theorem mk75 (a0 a1 : V) {H : Hp} {v : V} {H1 : Hp} (hd : v.Nd) (hn : H.length ≤ H1.length) (hb : H1 = H ∨ ∀ (b : Nat) (blk : Blk), H1[b]? = some blk → H[b]? = some blk ∨ BelB H1.length blk) (h : vc75 (real Try.prog) a0 a1 H (retF v H1)) : Ret Try.prog 75 [a0, a1] H v H1 :=
 ret_mk (an := an75) hm Try.call75 Try.func75 rfl wf75 hd hn hb (Eq.mpr (tie75 (real Try.prog) a0 a1 H (retF v H1)) h)
def an90 : An := { imm := [], jn := [], lp := [], loud := [], ord := [] }
def vc90 (C : Cb) (H : Hp) (R : List V → Hp → Prop) : Prop :=
 C.aMkM H fun v1 H2 =>
 C.aUpd 96 v1.nod (I 1) (V.fn 108 []) H2 fun v3 H4 =>
 C.aUpd 96 v1.nod (I 2) (V.fn 109 []) H4 fun v5 H6 =>
 C.aUpd 96 v1.nod (I 3) (V.fn 110 []) H6 fun v7 H8 =>
 C.aUpd 96 v1.nod (I 4) (V.fn 111 []) H8 fun v9 H10 =>
 C.aUpd 96 v1.nod (I 5) (V.fn 112 []) H10 fun v11 H12 =>
 C.aUpd 96 v1.nod (I 6) (V.fn 113 []) H12 fun v13 H14 =>
 R [v1.nod] H14
theorem wf90 : (Nat.ble 0 Try.f90.ntmps && wfC an90 Try.f90.ntmps (Try.f90.body.getD .skip)) = true := by kernel_rfl
theorem tie90 (C : Cb) (H : Hp) (R : List V → Hp → Prop) : wpG Try.prog C an90 (Try.f90.body.getD .skip) (argF []) H (retG Try.prog C Try.f90 R) (fun _ _ _ => False) (retG Try.prog C Try.f90 R) = vc90 C H R := by kernel_rfl
theorem mk90 {H : Hp} {v : V} {H1 : Hp} (hd : v.Nd) (hn : H.length ≤ H1.length) (hb : H1 = H ∨ ∀ (b : Nat) (blk : Blk), H1[b]? = some blk → H[b]? = some blk ∨ BelB H1.length blk) (h : vc90 (real Try.prog) H (retF v H1)) : Ret Try.prog 90 [] H v H1 :=
 ret_mk (an := an90) hm Try.call90 Try.func90 rfl wf90 hd hn hb (Eq.mpr (tie90 (real Try.prog) H (retF v H1)) h)
def an103 : An := { imm := [], jn := [(5, [0, 1, 2, 4, 5, 8, 9])], lp := [(2, [0, 1, 2, 4, 8, 9])], loud := [], ord := [] }
def vc103 (C : Cb) (a0 a1 a2 : V) (H : Hp) (R : List V → Hp → Prop) : Prop :=
 C.aFA 0 1 false a1.nod fun v1 =>
 C.aLd 1 false false v1.nod H fun v2 H3 =>
 C.aLen v2.nod fun v4 =>
 LoopA (fun l5 H6 K7 =>
 C.aBin (Try.prog.underlying 3) .lss (l5.getD 5 .junk).nod (l5.getD 4 .junk).nod fun v8 =>
 aCond v8.nod (
 Jn (fun l9 H10 =>
 C.aBin (Try.prog.underlying 3) .add (l9.getD 4 .junk).nod.nod (I 1) fun v12 =>
 C.aBd [(I 0), (I 0)] [(0, 1, (l9.getD 3 .junk).nod.nod), (1, 1, v12.nod.nod)] fun v13 =>
 aCallEG C (l9.getD 0 .junk).nod.nod [(own0 v13 (l9.getD 3 .junk).nod).nod] H10 fun v14 H15 =>
 C.aUn .not v14.nod fun v16 =>
 aCond v16.nod (
 R [] H15) (
 C.aBin (Try.prog.underlying 3) .add (l9.getD 4 .junk).nod.nod (I 1) fun v17 =>
 C.aBin (Try.prog.underlying 3) .add (l9.getD 6 .junk).nod (I 1) fun v18 =>
 K7 [(l9.getD 0 .junk), (l9.getD 1 .junk), (l9.getD 2 .junk), v17, (l9.getD 5 .junk), v18.nod] H15))
 (fun R11 =>
 C.aFA 1 1 false (l5.getD 1 .junk).nod fun v19 =>
 C.aLd 1 false false v19.nod H6 fun v20 H21 =>
 C.aLen v20.nod fun v22 =>
 C.aBin (Try.prog.underlying 3) .lss (l5.getD 5 .junk).nod.nod.nod v22.nod fun v23 =>
 Jv (fun v24 H25 =>
 aCond v24.nod (
 C.aBin (Try.prog.underlying 3) .add (l5.getD 5 .junk).nod (I 1) fun v36 =>
 K7 [(l5.getD 0 .junk), (l5.getD 1 .junk), (l5.getD 2 .junk), (l5.getD 3 .junk), (l5.getD 4 .junk), v36.nod] H25) (
 R11 [(l5.getD 0 .junk), (l5.getD 1 .junk), (l5.getD 2 .junk), (l5.getD 3 .junk), (l5.getD 5 .junk).nod, (l5.getD 4 .junk), (l5.getD 5 .junk)] H25))
 (fun R26 =>
 aG v23.nod true (
 C.aFA 1 1 false (l5.getD 1 .junk).nod fun v27 =>
 C.aLd 1 false false v27.nod H21 fun v28 H29 =>
 C.aIx 1 v28.nod (l5.getD 5 .junk).nod.nod.nod fun v30 =>
 C.aLd 1 false false v30.nod H29 fun v31 H32 =>
 C.aLd 1 false false (l5.getD 2 .junk).nod H32 fun v33 H34 =>
 C.aBin (Try.prog.underlying 3) .lss v31.nod v33.nod fun v35 =>
 R26 v35.nod H34) (
 R26 (B false) H21)))) (
 R [] H6))
 [a0, a1, a2, (I 0), v4, (I 0)] H3
theorem wf103 : (Nat.ble 3 Try.f103.ntmps && wfC an103 Try.f103.ntmps (Try.f103.body.getD .skip)) = true := by kernel_rfl
theorem tie103 (C : Cb) (a0 a1 a2 : V) (H : Hp) (R : List V → Hp → Prop) : wpG Try.prog C an103 (Try.f103.body.getD .skip) (argF [a0, a1, a2]) H (retG Try.prog C Try.f103 R) (fun _ _ _ => False) (retG Try.prog C Try.f103 R) = vc103 C a0 a1 a2 H R := by kernel_rfl
theorem mkE103 (a0 a1 a2 : V) {H : Hp} {Q : V → Hp → Prop} (h : vc103 (real Try.prog) a0 a1 a2 H (retW Q)) : RetE Try.prog 103 [a0, a1, a2] H Q :=
 retE_mk (an := an103) hm Try.call103 Try.func103 rfl wf103 (Eq.mpr (tie103 (real Try.prog) a0 a1 a2 H (retW Q)) h)
def an108 : An := { imm := [2, 3, 6], jn := [], lp := [], loud := [], ord := [] }
def vc108 (C : Cb) (a0 a1 : V) (H : Hp) (R : List V → Hp → Prop) : Prop :=
 C.aBx true 2 a0.nod H fun v1 H2 =>
 C.aBx true 3 a1.nod H2 fun v3 H4 =>
 C.aBx false 1 (I 0) H4 fun v5 H6 =>
 C.aSt 1 v5.nod (I 0) H6 fun v7 H8 =>
 C.aLd 2 true false v1.nod H8 fun v9 H10 =>
 C.aFA 1 1 false v3.nod fun v11 =>
 C.aLd 1 false false v11.nod H10 fun v12 H13 =>
 C.callE 75 [v9.nod, v12.nod] H13 fun v14 H15 =>
 C.range v14.nod 1 H15 (fun l16 H17 (D18 : Hp → (Hp → Prop) → Prop) (K19 : Bool → Hp → Prop) =>
 C.aBx true 2 (l16.getD 0 .junk).nod H17 fun v23 H24 =>
 D18 H24 fun H20 =>
 C.aLd 1 false false v5.nod.nod H20 fun v25 H26 =>
 C.aFA 0 1 false v1.nod.nod fun v27 =>
 C.aLd 1 false false v27.nod H26 fun v28 H29 =>
 C.aFA 0 1 false v23.nod fun v30 =>
 C.aLd 1 false false v30.nod H29 fun v31 H32 =>
 C.aFA 1 1 false v23.nod fun v33 =>
 C.aLd 1 false false v33.nod H32 fun v34 H35 =>
 C.aSlc 5 v28.nod (some v31.nod) (some v34.nod) none fun v36 =>
 C.calm 114 [v36.nod] H35 fun v37 =>
 C.aFA 2 1 false v3.nod.nod fun v38 =>
 C.aLd 1 false false v38.nod H35 fun v39 H40 =>
 C.aBin (Try.prog.underlying 3) .sub v37.nod v39.nod fun v41 =>
 C.aMM true [(I 0), v41.nod] fun v42 =>
 C.aBin (Try.prog.underlying 3) .add v25.nod v42.nod fun v43 =>
 C.aSt 1 v5.nod.nod v43 H40 fun v44 H45 =>
 K19 false H45) (fun H21 =>
 C.aLd 1 false false v5.nod.nod H21 fun v46 H47 =>
 R [v46] H47) (fun H22 =>
 R [(I 0)] H22)
theorem wf108 : (Nat.ble 2 Try.f108.ntmps && wfC an108 Try.f108.ntmps (Try.f108.body.getD .skip)) = true := by kernel_rfl
theorem tie108 (C : Cb) (a0 a1 : V) (H : Hp) (R : List V → Hp → Prop) : wpG Try.prog C an108 (Try.f108.body.getD .skip) (argF [a0, a1]) H (retG Try.prog C Try.f108 R) (fun _ _ _ => False) (retG Try.prog C Try.f108 R) = vc108 C a0 a1 H R := by kernel_rfl
theorem mk108 (a0 a1 : V) {H : Hp} {v : V} {H1 : Hp} (hd : v.Nd) (hn : H.length ≤ H1.length) (hb : H1 = H ∨ ∀ (b : Nat) (blk : Blk), H1[b]? = some blk → H[b]? = some blk ∨ BelB H1.length blk) (h : vc108 (real Try.prog) a0 a1 H (retF v H1)) : Ret Try.prog 108 [a0, a1] H v H1 :=
 ret_mk (an := an108) hm Try.call108 Try.func108 rfl wf108 hd hn hb (Eq.mpr (tie108 (real Try.prog) a0 a1 H (retF v H1)) h)
def an109 : An := { imm := [2, 3, 6], jn := [], lp := [], loud := [], ord := [] }
def vc109 (C : Cb) (a0 a1 : V) (H : Hp) (R : List V → Hp → Prop) : Prop :=
 C.aBx true 2 a0.nod H fun v1 H2 =>
 C.aBx true 3 a1.nod H2 fun v3 H4 =>
 C.aBx false 1 (I 0) H4 fun v5 H6 =>
 C.aSt 1 v5.nod (I 0) H6 fun v7 H8 =>
 C.aLd 2 true false v1.nod H8 fun v9 H10 =>
 C.aFA 1 1 false v3.nod fun v11 =>
 C.aLd 1 false false v11.nod H10 fun v12 H13 =>
 C.callE 75 [v9.nod, v12.nod] H13 fun v14 H15 =>
 C.range v14.nod 1 H15 (fun l16 H17 (D18 : Hp → (Hp → Prop) → Prop) (K19 : Bool → Hp → Prop) =>
 C.aBx true 2 (l16.getD 0 .junk).nod H17 fun v23 H24 =>
 D18 H24 fun H20 =>
 C.aLd 1 false false v5.nod.nod H20 fun v25 H26 =>
 C.aFA 2 1 false v3.nod.nod fun v27 =>
 C.aLd 1 false false v27.nod H26 fun v28 H29 =>
 C.aFA 0 1 false v1.nod.nod fun v30 =>
 C.aLd 1 false false v30.nod H29 fun v31 H32 =>
 C.aFA 0 1 false v23.nod fun v33 =>
 C.aLd 1 false false v33.nod H32 fun v34 H35 =>
 C.aFA 1 1 false v23.nod fun v36 =>
 C.aLd 1 false false v36.nod H35 fun v37 H38 =>
 C.aSlc 5 v31.nod (some v34.nod) (some v37.nod) none fun v39 =>
 C.calm 114 [v39.nod] H38 fun v40 =>
 C.aBin (Try.prog.underlying 3) .sub v28.nod v40.nod fun v41 =>
 C.aMM true [(I 0), v41.nod] fun v42 =>
 C.aBin (Try.prog.underlying 3) .add v25.nod v42.nod fun v43 =>
 C.aSt 1 v5.nod.nod v43 H38 fun v44 H45 =>
 K19 false H45) (fun H21 =>
 C.aLd 1 false false v5.nod.nod H21 fun v46 H47 =>
 R [v46] H47) (fun H22 =>
 R [(I 0)] H22)
theorem wf109 : (Nat.ble 2 Try.f109.ntmps && wfC an109 Try.f109.ntmps (Try.f109.body.getD .skip)) = true := by kernel_rfl
theorem tie109 (C : Cb) (a0 a1 : V) (H : Hp) (R : List V → Hp → Prop) : wpG Try.prog C an109 (Try.f109.body.getD .skip) (argF [a0, a1]) H (retG Try.prog C Try.f109 R) (fun _ _ _ => False) (retG Try.prog C Try.f109 R) = vc109 C a0 a1 H R := by kernel_rfl
theorem mk109 (a0 a1 : V) {H : Hp} {v : V} {H1 : Hp} (hd : v.Nd) (hn : H.length ≤ H1.length) (hb : H1 = H ∨ ∀ (b : Nat) (blk : Blk), H1[b]? = some blk → H[b]? = some blk ∨ BelB H1.length blk) (h : vc109 (real Try.prog) a0 a1 H (retF v H1)) : Ret Try.prog 109 [a0, a1] H v H1 :=
 ret_mk (an := an109) hm Try.call109 Try.func109 rfl wf109 hd hn hb (Eq.mpr (tie109 (real Try.prog) a0 a1 H (retF v H1)) h)
def an110 : An := { imm := [2, 3], jn := [], lp := [], loud := [], ord := [] }
def vc110 (C : Cb) (a0 a1 : V) (H : Hp) (R : List V → Hp → Prop) : Prop :=
 C.aBx true 2 a0.nod H fun v1 H2 =>
 C.aBx true 3 a1.nod H2 fun v3 H4 =>
 C.aLd 2 true false v1.nod H4 fun v5 H6 =>
 C.callE 117 [v5.nod, (V.fn 118 [v3.nod])] H6 fun v7 H8 =>
 R [v7] H8
theorem wf110 : (Nat.ble 2 Try.f110.ntmps && wfC an110 Try.f110.ntmps (Try.f110.body.getD .skip)) = true := by kernel_rfl
theorem tie110 (C : Cb) (a0 a1 : V) (H : Hp) (R : List V → Hp → Prop) : wpG Try.prog C an110 (Try.f110.body.getD .skip) (argF [a0, a1]) H (retG Try.prog C Try.f110 R) (fun _ _ _ => False) (retG Try.prog C Try.f110 R) = vc110 C a0 a1 H R := by kernel_rfl
theorem mk110 (a0 a1 : V) {H : Hp} {v : V} {H1 : Hp} (hd : v.Nd) (hn : H.length ≤ H1.length) (hb : H1 = H ∨ ∀ (b : Nat) (blk : Blk), H1[b]? = some blk → H[b]? = some blk ∨ BelB H1.length blk) (h : vc110 (real Try.prog) a0 a1 H (retF v H1)) : Ret Try.prog 110 [a0, a1] H v H1 :=
 ret_mk (an := an110) hm Try.call110 Try.func110 rfl wf110 hd hn hb (Eq.mpr (tie110 (real Try.prog) a0 a1 H (retF v H1)) h)
def an111 : An := { imm := [2, 3], jn := [], lp := [], loud := [], ord := [] }
def vc111 (C : Cb) (a0 a1 : V) (H : Hp) (R : List V → Hp → Prop) : Prop :=
 C.aBx true 2 a0.nod H fun v1 H2 =>
 C.aBx true 3 a1.nod H2 fun v3 H4 =>
 C.aLd 2 true false v1.nod H4 fun v5 H6 =>
 C.callE 117 [v5.nod, (V.fn 119 [v3.nod])] H6 fun v7 H8 =>
 R [v7] H8
theorem wf111 : (Nat.ble 2 Try.f111.ntmps && wfC an111 Try.f111.ntmps (Try.f111.body.getD .skip)) = true := by kernel_rfl
theorem tie111 (C : Cb) (a0 a1 : V) (H : Hp) (R : List V → Hp → Prop) : wpG Try.prog C an111 (Try.f111.body.getD .skip) (argF [a0, a1]) H (retG Try.prog C Try.f111 R) (fun _ _ _ => False) (retG Try.prog C Try.f111 R) = vc111 C a0 a1 H R := by kernel_rfl
theorem mk111 (a0 a1 : V) {H : Hp} {v : V} {H1 : Hp} (hd : v.Nd) (hn : H.length ≤ H1.length) (hb : H1 = H ∨ ∀ (b : Nat) (blk : Blk), H1[b]? = some blk → H[b]? = some blk ∨ BelB H1.length blk) (h : vc111 (real Try.prog) a0 a1 H (retF v H1)) : Ret Try.prog 111 [a0, a1] H v H1 :=
 ret_mk (an := an111) hm Try.call111 Try.func111 rfl wf111 hd hn hb (Eq.mpr (tie111 (real Try.prog) a0 a1 H (retF v H1)) h)
def an112 : An := { imm := [2, 3], jn := [], lp := [], loud := [], ord := [] }
def vc112 (C : Cb) (a0 a1 : V) (H : Hp) (R : List V → Hp → Prop) : Prop :=
 C.aBx true 2 a0.nod H fun v1 H2 =>
 C.aBx true 3 a1.nod H2 fun v3 H4 =>
 C.aLd 2 true false v1.nod H4 fun v5 H6 =>
 C.callE 117 [v5.nod, (V.fn 120 [v3.nod])] H6 fun v7 H8 =>
 R [v7] H8
theorem wf112 : (Nat.ble 2 Try.f112.ntmps && wfC an112 Try.f112.ntmps (Try.f112.body.getD .skip)) = true := by kernel_rfl
theorem tie112 (C : Cb) (a0 a1 : V) (H : Hp) (R : List V → Hp → Prop) : wpG Try.prog C an112 (Try.f112.body.getD .skip) (argF [a0, a1]) H (retG Try.prog C Try.f112 R) (fun _ _ _ => False) (retG Try.prog C Try.f112 R) = vc112 C a0 a1 H R := by kernel_rfl
theorem mk112 (a0 a1 : V) {H : Hp} {v : V} {H1 : Hp} (hd : v.Nd) (hn : H.length ≤ H1.length) (hb : H1 = H ∨ ∀ (b : Nat) (blk : Blk), H1[b]? = some blk → H[b]? = some blk ∨ BelB H1.length blk) (h : vc112 (real Try.prog) a0 a1 H (retF v H1)) : Ret Try.prog 112 [a0, a1] H v H1 :=
 ret_mk (an := an112) hm Try.call112 Try.func112 rfl wf112 hd hn hb (Eq.mpr (tie112 (real Try.prog) a0 a1 H (retF v H1)) h)
def an113 : An := { imm := [2, 3], jn := [], lp := [], loud := [], ord := [] }
def vc113 (C : Cb) (a0 a1 : V) (H : Hp) (R : List V → Hp → Prop) : Prop :=
 C.aBx true 2 a0.nod H fun v1 H2 =>
 C.aBx true 3 a1.nod H2 fun v3 H4 =>
 C.aLd 2 true false v1.nod H4 fun v5 H6 =>
 C.calm 117 [v5.nod, (V.fn 121 [v3.nod])] H6 fun v7 =>
 C.aFA 2 1 false v3.nod fun v8 =>
 C.aLd 1 false false v8.nod H6 fun v9 H10 =>
 C.aBin (Try.prog.underlying 3) .sub v7.nod v9.nod fun v11 =>
 C.aMM true [(I 0), v11.nod] fun v12 =>
 R [v12] H10
theorem wf113 : (Nat.ble 2 Try.f113.ntmps && wfC an113 Try.f113.ntmps (Try.f113.body.getD .skip)) = true := by kernel_rfl
theorem tie113 (C : Cb) (a0 a1 : V) (H : Hp) (R : List V → Hp → Prop) : wpG Try.prog C an113 (Try.f113.body.getD .skip) (argF [a0, a1]) H (retG Try.prog C Try.f113 R) (fun _ _ _ => False) (retG Try.prog C Try.f113 R) = vc113 C a0 a1 H R := by kernel_rfl
theorem mk113 (a0 a1 : V) {H : Hp} {v : V} {H1 : Hp} (hd : v.Nd) (hn : H.length ≤ H1.length) (hb : H1 = H ∨ ∀ (b : Nat) (blk : Blk), H1[b]? = some blk → H[b]? = some blk ∨ BelB H1.length blk) (h : vc113 (real Try.prog) a0 a1 H (retF v H1)) : Ret Try.prog 113 [a0, a1] H v H1 :=
 ret_mk (an := an113) hm Try.call113 Try.func113 rfl wf113 hd hn hb (Eq.mpr (tie113 (real Try.prog) a0 a1 H (retF v H1)) h)
def an117 : An := { imm := [2], jn := [(6, [1, 2, 5, 9, 10, 11, 23])], lp := [(3, [1, 2, 5, 9, 10, 11])], loud := [], ord := [] }
def vc117 (C : Cb) (a0 a1 : V) (H : Hp) (R : List V → Hp → Prop) : Prop :=
 C.aBx true 2 a0.nod H fun v1 H2 =>
 C.aFA 1 1 false v1.nod fun v3 =>
 C.aLd 1 false false v3.nod H2 fun v4 H5 =>
 C.aLen v4.nod fun v6 =>
 LoopA (fun l7 H8 K9 =>
 C.aBin (Try.prog.underlying 3) .lss (l7.getD 5 .junk).nod (l7.getD 4 .junk).nod fun v10 =>
 aCond v10.nod (
 C.aIx 1 (l7.getD 3 .junk).nod (l7.getD 5 .junk).nod fun v11 =>
 C.aLd 1 false false v11.nod H8 fun v12 H13 =>
 Jn (fun l14 H15 =>
 aCond (l14.getD 6 .junk).nod (
 C.aBin (Try.prog.underlying 3) .add (l14.getD 2 .junk).nod.nod (I 1) fun v17 =>
 C.aBin (Try.prog.underlying 3) .add (l14.getD 5 .junk).nod (I 1) fun v18 =>
 K9 [(l14.getD 0 .junk), (l14.getD 1 .junk), v17, (l14.getD 3 .junk), (l14.getD 4 .junk), v18.nod] H15) (
 C.aBin (Try.prog.underlying 3) .add (l14.getD 5 .junk).nod (I 1) fun v19 =>
 K9 [(l14.getD 0 .junk), (l14.getD 1 .junk), (l14.getD 2 .junk), (l14.getD 3 .junk), (l14.getD 4 .junk), v19.nod] H15))
 (fun R16 =>
 C.aFA 0 1 false (l7.getD 1 .junk).nod fun v20 =>
 C.aLd 1 false false v20.nod H13 fun v21 H22 =>
 C.aIx 5 v21.nod (l7.getD 5 .junk).nod.nod.nod fun v23 =>
 C.aLd 5 true false v23.nod H22 fun v24 H25 =>
 aCallEG C (l7.getD 0 .junk).nod.nod [v24.nod, v12.nod.nod] H25 fun v26 H27 =>
 R16 [(l7.getD 0 .junk), (l7.getD 1 .junk), (l7.getD 2 .junk), (l7.getD 3 .junk), (l7.getD 4 .junk), (l7.getD 5 .junk), v26] H27)) (
 R [(l7.getD 2 .junk).nod] H8))
 [a1, v1, (I 0), v4, v6, (I 0)] H5
theorem wf117 : (Nat.ble 2 Try.f117.ntmps && wfC an117 Try.f117.ntmps (Try.f117.body.getD .skip)) = true := by kernel_rfl
theorem tie117 (C : Cb) (a0 a1 : V) (H : Hp) (R : List V → Hp → Prop) : wpG Try.prog C an117 (Try.f117.body.getD .skip) (argF [a0, a1]) H (retG Try.prog C Try.f117 R) (fun _ _ _ => False) (retG Try.prog C Try.f117 R) = vc117 C a0 a1 H R := by kernel_rfl
theorem mk117 (a0 a1 : V) {H : Hp} {v : V} {H1 : Hp} (hd : v.Nd) (hn : H.length ≤ H1.length) (hb : H1 = H ∨ ∀ (b : Nat) (blk : Blk), H1[b]? = some blk → H[b]? = some blk ∨ BelB H1.length blk) (h : vc117 (real Try.prog) a0 a1 H (retF v H1)) : Ret Try.prog 117 [a0, a1] H v H1 :=
 ret_mk (an := an117) hm Try.call117 Try.func117 rfl wf117 hd hn hb (Eq.mpr (tie117 (real Try.prog) a0 a1 H (retF v H1)) h)
def an118 : An := { imm := [3], jn := [], lp := [], loud := [], ord := [] }
def vc118 (C : Cb) (a0 a1 a2 : V) (H : Hp) (R : List V → Hp → Prop) : Prop :=
 C.aBx true 5 a0.nod H fun v1 H2 =>
 C.aFA 1 1 false a2.nod fun v3 =>
 C.aLd 1 false false v3.nod H2 fun v4 H5 =>
 C.aBin (Try.prog.underlying 3) .geq a1.nod.nod v4.nod fun v6 =>
 Jv (fun v7 H8 =>
 R [v7] H8)
 (fun R9 =>
 aG v6.nod true (
 C.aFA 2 1 false v1.nod fun v10 =>
 C.aLd 1 false false v10.nod H5 fun v11 H12 =>
 C.aFA 2 1 false a2.nod fun v13 =>
 C.aLd 1 false false v13.nod H12 fun v14 H15 =>
 C.aBin (Try.prog.underlying 3) .lss v11.nod v14.nod fun v16 =>
 R9 v16.nod H15) (
 R9 (B false) H5))
theorem wf118 : (Nat.ble 3 Try.f118.ntmps && wfC an118 Try.f118.ntmps (Try.f118.body.getD .skip)) = true := by kernel_rfl
theorem tie118 (C : Cb) (a0 a1 a2 : V) (H : Hp) (R : List V → Hp → Prop) : wpG Try.prog C an118 (Try.f118.body.getD .skip) (argF [a0, a1, a2]) H (retG Try.prog C Try.f118 R) (fun _ _ _ => False) (retG Try.prog C Try.f118 R) = vc118 C a0 a1 a2 H R := by kernel_rfl
theorem mk118 (a0 a1 a2 : V) {H : Hp} {v : V} {H1 : Hp} (hd : v.Nd) (hn : H.length ≤ H1.length) (hb : H1 = H ∨ ∀ (b : Nat) (blk : Blk), H1[b]? = some blk → H[b]? = some blk ∨ BelB H1.length blk) (h : vc118 (real Try.prog) a0 a1 a2 H (retF v H1)) : Ret Try.prog 118 [a0, a1, a2] H v H1 :=
 ret_mk (an := an118) hm Try.call118 Try.func118 rfl wf118 hd hn hb (Eq.mpr (tie118 (real Try.prog) a0 a1 a2 H (retF v H1)) h)
def an119 : An := { imm := [3], jn := [], lp := [], loud := [], ord := [] }
def vc119 (C : Cb) (a0 a1 a2 : V) (H : Hp) (R : List V → Hp → Prop) : Prop :=
 C.aBx true 5 a0.nod H fun v1 H2 =>
 C.aFA 1 1 false a2.nod fun v3 =>
 C.aLd 1 false false v3.nod H2 fun v4 H5 =>
 C.aBin (Try.prog.underlying 3) .lss a1.nod.nod v4.nod fun v6 =>
 Jv (fun v7 H8 =>
 R [v7] H8)
 (fun R9 =>
 aG v6.nod true (
 C.aFA 2 1 false v1.nod fun v10 =>
 C.aLd 1 false false v10.nod H5 fun v11 H12 =>
 C.aFA 2 1 false a2.nod fun v13 =>
 C.aLd 1 false false v13.nod H12 fun v14 H15 =>
 C.aBin (Try.prog.underlying 3) .geq v11.nod v14.nod fun v16 =>
 R9 v16.nod H15) (
 R9 (B false) H5))
theorem wf119 : (Nat.ble 3 Try.f119.ntmps && wfC an119 Try.f119.ntmps (Try.f119.body.getD .skip)) = true := by kernel_rfl
theorem tie119 (C : Cb) (a0 a1 a2 : V) (H : Hp) (R : List V → Hp → Prop) : wpG Try.prog C an119 (Try.f119.body.getD .skip) (argF [a0, a1, a2]) H (retG Try.prog C Try.f119 R) (fun _ _ _ => False) (retG Try.prog C Try.f119 R) = vc119 C a0 a1 a2 H R := by kernel_rfl
theorem mk119 (a0 a1 a2 : V) {H : Hp} {v : V} {H1 : Hp} (hd : v.Nd) (hn : H.length ≤ H1.length) (hb : H1 = H ∨ ∀ (b : Nat) (blk : Blk), H1[b]? = some blk → H[b]? = some blk ∨ BelB H1.length blk) (h : vc119 (real Try.prog) a0 a1 a2 H (retF v H1)) : Ret Try.prog 119 [a0, a1, a2] H v H1 :=
 ret_mk (an := an119) hm Try.call119 Try.func119 rfl wf119 hd hn hb (Eq.mpr (tie119 (real Try.prog) a0 a1 a2 H (retF v H1)) h)
def an120 : An := { imm := [3], jn := [], lp := [], loud := [], ord := [] }
def vc120 (C : Cb) (a0 a1 a2 : V) (H : Hp) (R : List V → Hp → Prop) : Prop :=
 C.aBx true 5 a0.nod H fun v1 H2 =>
 C.aFA 1 1 false a2.nod fun v3 =>
 C.aLd 1 false false v3.nod H2 fun v4 H5 =>
 C.aBin (Try.prog.underlying 3) .lss a1.nod.nod v4.nod fun v6 =>
 Jv (fun v7 H8 =>
 R [v7] H8)
 (fun R9 =>
 aG v6.nod true (
 C.aFA 3 1 false v1.nod fun v10 =>
 C.aLd 1 false false v10.nod H5 fun v11 H12 =>
 R9 v11.nod H12) (
 R9 (B false) H5))
theorem wf120 : (Nat.ble 3 Try.f120.ntmps && wfC an120 Try.f120.ntmps (Try.f120.body.getD .skip)) = true := by kernel_rfl
theorem tie120 (C : Cb) (a0 a1 a2 : V) (H : Hp) (R : List V → Hp → Prop) : wpG Try.prog C an120 (Try.f120.body.getD .skip) (argF [a0, a1, a2]) H (retG Try.prog C Try.f120 R) (fun _ _ _ => False) (retG Try.prog C Try.f120 R) = vc120 C a0 a1 a2 H R := by kernel_rfl
theorem mk120 (a0 a1 a2 : V) {H : Hp} {v : V} {H1 : Hp} (hd : v.Nd) (hn : H.length ≤ H1.length) (hb : H1 = H ∨ ∀ (b : Nat) (blk : Blk), H1[b]? = some blk → H[b]? = some blk ∨ BelB H1.length blk) (h : vc120 (real Try.prog) a0 a1 a2 H (retF v H1)) : Ret Try.prog 120 [a0, a1, a2] H v H1 :=
 ret_mk (an := an120) hm Try.call120 Try.func120 rfl wf120 hd hn hb (Eq.mpr (tie120 (real Try.prog) a0 a1 a2 H (retF v H1)) h)
def an121 : An := { imm := [3], jn := [], lp := [], loud := [], ord := [] }
def vc121 (C : Cb) (a0 a1 a2 : V) (H : Hp) (R : List V → Hp → Prop) : Prop :=
 C.aBx true 5 a0.nod H fun v1 H2 =>
 C.aFA 1 1 false a2.nod fun v3 =>
 C.aLd 1 false false v3.nod H2 fun v4 H5 =>
 C.aBin (Try.prog.underlying 3) .geq a1.nod.nod v4.nod fun v6 =>
 R [v6] H5
theorem wf121 : (Nat.ble 3 Try.f121.ntmps && wfC an121 Try.f121.ntmps (Try.f121.body.getD .skip)) = true := by kernel_rfl
theorem tie121 (C : Cb) (a0 a1 a2 : V) (H : Hp) (R : List V → Hp → Prop) : wpG Try.prog C an121 (Try.f121.body.getD .skip) (argF [a0, a1, a2]) H (retG Try.prog C Try.f121 R) (fun _ _ _ => False) (retG Try.prog C Try.f121 R) = vc121 C a0 a1 a2 H R := by kernel_rfl
theorem mk121 (a0 a1 a2 : V) {H : Hp} {v : V} {H1 : Hp} (hd : v.Nd) (hn : H.length ≤ H1.length) (hb : H1 = H ∨ ∀ (b : Nat) (blk : Blk), H1[b]? = some blk → H[b]? = some blk ∨ BelB H1.length blk) (h : vc121 (real Try.prog) a0 a1 a2 H (retF v H1)) : Ret Try.prog 121 [a0, a1, a2] H v H1 :=
 ret_mk (an := an121) hm Try.call121 Try.func121 rfl wf121 hd hn hb (Eq.mpr (tie121 (real Try.prog) a0 a1 a2 H (retF v H1)) h)
end Go.Proofs.Ytgicpobploinhaa
set_option linter.unusedSimpArgs false
set_option linter.unnecessarySimpa false
set_option maxHeartbeats 2000000
namespace Go.Proofs.Ytgicpobploinhaa
open Go Go.Ab Go.Proofs
attribute [local congr] g_bin g_nilS g_nilP g_un g_ext g_bx g_fa g_ld g_st g_ix g_ixA g_slc g_mk g_bs g_bd g_nc g_cv g_len g_lenT g_app g_appB g_cpy g_mm g_call g_callG g_calm g_calmG g_range g_res g_pick g_cond g_loop g_Jv g_eqS g_eqP g_fd g_ixT g_ta g_lkp g_upd g_mkM g_appS g_inv g_callE g_callEG g_invE g_zr g_wr
structure Wd where
 sy : Int
 st : Int
 gp : Int
 fo : Bool
 co : Bool
deriving Inhabited, DecidableEq
structure Rk where
 k : Int
 l : Int
 b : Int
deriving Inhabited, DecidableEq
abbrev wdV (w : Wd) : V := .agg [I w.sy, I w.st, I w.gp, B w.fo, B w.co]
abbrev rkV (r : Rk) : V := .agg [I r.k, I r.l, I r.b]
theorem ix_wd (l : List Wd) (f : Fl) (i : Int) {K : V → Prop} : aIx 5 (.arr (l.map wdV) f) (I i) K = (0 ≤ i ∧ i < l.length ∧ K (.cptr (wdV (l.getD i.toNat default)))) := e_ixE wdV default (fun _ => rfl) l f i
theorem ix_rk (l : List Rk) (f : Fl) (i : Int) {K : V → Prop} : aIx 3 (.arr (l.map rkV) f) (I i) K = (0 ≤ i ∧ i < l.length ∧ K (.cptr (rkV (l.getD i.toNat default)))) := e_ixE rkV default (fun _ => rfl) l f i
theorem slc_wd (l : List Wd) (f : Fl) (i j : Int) {K : V → Prop} : aSlc 5 (.arr (l.map wdV) f) (some (I i)) (some (I j)) none K = (0 ≤ i ∧ i ≤ j ∧ j ≤ l.length ∧ K (.arr (((l.take j.toNat).drop i.toNat).map wdV) .no)) := by
 have hz : SzL 5 (l.map wdV) := szL_E (e := wdV) (s := 5) (fun _ => rfl) l
 simp only [aSlc, hz, true_and, List.length_map, List.map_take, List.map_drop]
def okWd (w : Wd) : Bool := inB w.sy 1 20 && inB w.st (-1) (w.sy - 1) && inB w.gp 0 20
def okWs (l : List Wd) : Bool := decide (l.length ≤ 60) && l.all okWd
def okRk (r : Rk) : Bool := inB r.k 1 6 && inB r.l 1 2 && inB r.b 0 400
def okRs (l : List Rk) : Bool := decide (l.length ≤ 20) && l.all okRk
theorem c106 (l : List Wd) (g : Nat) (cs : List V) (p : Wd → Bool) (H : Hp) (hl : l.length ≤ 9223372036854775807) (hg : ∀ x, x ∈ l → Ret Try.prog g (wdV x :: cs) H (B (p x)) H) : Ret Try.prog 106 [.arr (l.map wdV) .no, .fn g cs] H (I (idxI p l)) H := by
 refine mk106 _ _ rfl (Nat.le_refl _) (.inl rfl) ?_
 simp only [vc106, real]
 repeat (first | (with_reducible first | refine Ju.go ?_ | (refine Hd.go ?_; intro K Q hK hQ; simp only [nod_arr, nd_no, e_lenA, List.length_map]; subst hK hQ) | refine Jr.go ?_) | refine sd ?_)
 refine loop_of (fun i : Nat => i ≤ l.length ∧ ∀ (j : Nat) (y : Wd), j < i → l[j]? = some y → p y = false) (fun i => [.arr (l.map wdV) .no, .fn g cs, I l.length, I i]) (fun _ => H) (fun i => l.length - i) 0 ⟨Nat.zero_le _, fun j y h => absurd h (Nat.not_lt_zero _)⟩ rfl rfl ?_
 intro i ⟨hi, hp⟩
 repeat (first | (with_reducible first | refine Ju.go ?_ | (refine Hd.go ?_; intro K Q hK hQ; simp only [List.getD_cons_succ, List.getD_cons_zero, nod_imm, Try.underlying3, e_lss, e_cond, decide_eq_true_eq]; subst hK hQ) | refine Jr.go ?_) | refine sd ?_)
 by_cases hlt : i < l.length
 ·have d : (i : Int) < l.length := by omega
  repeat (first | (with_reducible first | refine Ju.go ?_ | (refine Hd.go ?_; intro K Q hK hQ; simp only [d, if_true, List.getD_cons_zero, nod_arr, nd_no, List.getD_cons_succ, nod_imm, ix_wd, Int.toNat_natCast, true_and, nod_cptr, e_ldcA, lv_cons, List.length_nil, Nat.zero_add, Nat.reduceAdd, nod_fn, nod_agg, List.map_cons, nodL_imm, List.map_nil, e_callEG]; subst hK hQ) | refine Jr.go ?_) | refine sd ?_)
  refine call_of (hg _ (getD_memA l default hlt)) ?_
  by_cases hb : p (l.getD i default) = true
  ·rw [hb]
   repeat (first | (with_reducible first | refine Ju.go ?_ | (refine Hd.go ?_; intro K Q hK hQ; simp only [nod_imm, e_cond, if_true]; subst hK hQ) | refine Jr.go ?_) | refine sd ?_)
   rw [idxI_at p l i _ (getD_someA l default hlt) hb hp]
   exact end1 (fzI _)
  ·rw [Bool.eq_false_iff.2 hb]
   repeat (first | (with_reducible first | refine Ju.go ?_ | (refine Hd.go ?_; intro K Q hK hQ; simp only [nod_imm, e_cond, Bool.false_eq_true, if_false, List.getD_cons_succ, List.getD_cons_zero, Try.underlying3, e_add]; subst hK hQ) | refine Jr.go ?_) | refine sd ?_)
   refine ⟨i + 1, ⟨by omega, fun j y hj hy => ?_⟩, rfl, rfl, by omega⟩
   by_cases e : j = i
   ·subst e
    rw [getD_someA l default hlt] at hy
    cases hy
    exact Bool.eq_false_iff.2 hb
   ·exact hp j y (by omega) hy
 ·have d : ¬ (i : Int) < l.length := by omega
  repeat (first | (with_reducible first | refine Ju.go ?_ | (refine Hd.go ?_; intro K Q hK hQ; simp only [d, if_false]; subst hK hQ) | refine Jr.go ?_) | refine sd ?_)
  rw [idxI_none p l (fun j y hy => hp j y (by have := (List.getElem?_eq_some_iff.1 hy).1; omega) hy)]
  exact end1 (fzI _)
theorem c86 (l : List Wd) (g : Nat) (cs : List V) (p : Wd → Bool) (H : Hp) (hl : l.length ≤ 9223372036854775807) (hg : ∀ x, x ∈ l → Ret Try.prog g (wdV x :: cs) H (B (p x)) H) : Ret Try.prog 86 [.arr (l.map wdV) .no, .fn g cs] H (B (l.any p)) H := by
 refine mk86 _ _ rfl (Nat.le_refl _) (.inl rfl) ?_
 simp only [vc86, real]
 repeat (first | (with_reducible first | refine Ju.go ?_ | (refine Hd.go ?_; intro K Q hK hQ; simp only [nod_arr, nd_no, nod_fn]; subst hK hQ) | refine Jr.go ?_) | refine sd ?_)
 refine call_of (c106 l g cs p H hl hg) ?_
 repeat (first | (with_reducible first | refine Ju.go ?_ | (refine Hd.go ?_; intro K Q hK hQ; simp only [nod_imm, Try.underlying3, e_geq, idxI_any]; subst hK hQ) | refine Jr.go ?_) | refine sd ?_)
 exact end1 (fzI _)
theorem c107 (l : List Rk) (g : Nat) (cs : List V) (p : Rk → Bool) (H : Hp) (hl : l.length ≤ 9223372036854775807) (hg : ∀ x, x ∈ l → Ret Try.prog g (rkV x :: cs) H (B (p x)) H) : Ret Try.prog 107 [.arr (l.map rkV) .no, .fn g cs] H (I (idxI p l)) H := by
 refine mk107 _ _ rfl (Nat.le_refl _) (.inl rfl) ?_
 simp only [vc107, real]
 repeat (first | (with_reducible first | refine Ju.go ?_ | (refine Hd.go ?_; intro K Q hK hQ; simp only [nod_arr, nd_no, e_lenA, List.length_map]; subst hK hQ) | refine Jr.go ?_) | refine sd ?_)
 refine loop_of (fun i : Nat => i ≤ l.length ∧ ∀ (j : Nat) (y : Rk), j < i → l[j]? = some y → p y = false) (fun i => [.arr (l.map rkV) .no, .fn g cs, I l.length, I i]) (fun _ => H) (fun i => l.length - i) 0 ⟨Nat.zero_le _, fun j y h => absurd h (Nat.not_lt_zero _)⟩ rfl rfl ?_
 intro i ⟨hi, hp⟩
 repeat (first | (with_reducible first | refine Ju.go ?_ | (refine Hd.go ?_; intro K Q hK hQ; simp only [List.getD_cons_succ, List.getD_cons_zero, nod_imm, Try.underlying3, e_lss, e_cond, decide_eq_true_eq]; subst hK hQ) | refine Jr.go ?_) | refine sd ?_)
 by_cases hlt : i < l.length
 ·have d : (i : Int) < l.length := by omega
  repeat (first | (with_reducible first | refine Ju.go ?_ | (refine Hd.go ?_; intro K Q hK hQ; simp only [d, if_true, List.getD_cons_zero, nod_arr, nd_no, List.getD_cons_succ, nod_imm, ix_rk, Int.toNat_natCast, true_and, nod_cptr, e_ldcA, lv_cons, List.length_nil, Nat.zero_add, Nat.reduceAdd, nod_fn, nod_agg, List.map_cons, nodL_imm, List.map_nil, e_callEG]; subst hK hQ) | refine Jr.go ?_) | refine sd ?_)
  refine call_of (hg _ (getD_memA l default hlt)) ?_
  by_cases hb : p (l.getD i default) = true
  ·rw [hb]
   repeat (first | (with_reducible first | refine Ju.go ?_ | (refine Hd.go ?_; intro K Q hK hQ; simp only [nod_imm, e_cond, if_true]; subst hK hQ) | refine Jr.go ?_) | refine sd ?_)
   rw [idxI_at p l i _ (getD_someA l default hlt) hb hp]
   exact end1 (fzI _)
  ·rw [Bool.eq_false_iff.2 hb]
   repeat (first | (with_reducible first | refine Ju.go ?_ | (refine Hd.go ?_; intro K Q hK hQ; simp only [nod_imm, e_cond, Bool.false_eq_true, if_false, List.getD_cons_succ, List.getD_cons_zero, Try.underlying3, e_add]; subst hK hQ) | refine Jr.go ?_) | refine sd ?_)
   refine ⟨i + 1, ⟨by omega, fun j y hj hy => ?_⟩, rfl, rfl, by omega⟩
   by_cases e : j = i
   ·subst e
    rw [getD_someA l default hlt] at hy
    cases hy
    exact Bool.eq_false_iff.2 hb
   ·exact hp j y (by omega) hy
 ·have d : ¬ (i : Int) < l.length := by omega
  repeat (first | (with_reducible first | refine Ju.go ?_ | (refine Hd.go ?_; intro K Q hK hQ; simp only [d, if_false]; subst hK hQ) | refine Jr.go ?_) | refine sd ?_)
  rw [idxI_none p l (fun j y hy => hp j y (by have := (List.getElem?_eq_some_iff.1 hy).1; omega) hy)]
  exact end1 (fzI _)
theorem c88 (l : List Rk) (g : Nat) (cs : List V) (p : Rk → Bool) (H : Hp) (hl : l.length ≤ 9223372036854775807) (hg : ∀ x, x ∈ l → Ret Try.prog g (rkV x :: cs) H (B (p x)) H) : Ret Try.prog 88 [.arr (l.map rkV) .no, .fn g cs] H (B (l.any p)) H := by
 refine mk88 _ _ rfl (Nat.le_refl _) (.inl rfl) ?_
 simp only [vc88, real]
 repeat (first | (with_reducible first | refine Ju.go ?_ | (refine Hd.go ?_; intro K Q hK hQ; simp only [nod_arr, nd_no, nod_fn]; subst hK hQ) | refine Jr.go ?_) | refine sd ?_)
 refine call_of (c107 l g cs p H hl hg) ?_
 repeat (first | (with_reducible first | refine Ju.go ?_ | (refine Hd.go ?_; intro K Q hK hQ; simp only [nod_imm, Try.underlying3, e_geq, idxI_any]; subst hK hQ) | refine Jr.go ?_) | refine sd ?_)
 exact end1 (fzI _)
theorem c87 (w : Wd) (H : Hp) : Ret Try.prog 87 [wdV w] H (B (!okWd w)) H := by
 refine mk87 _ rfl (Nat.le_refl _) (.inl rfl) ?_
 simp only [vc87, real]
 repeat (first | (with_reducible first | refine Ju.go ?_ | (refine Hd.go ?_; intro K Q hK hQ; simp only [nod_agg, List.map_cons, nodL_imm, List.map_nil, e_bxI, okE_agg, lv_cons, List.length_nil, Nat.zero_add, Nat.reduceAdd, all_c, ck_I, ck_B, all_n, Bool.and_self, and_true, true_and, nod_cptr, e_fac, Nat.reduceLeDiff, List.getD_cons_zero, e_ldc, nod_imm]; subst hK hQ) | refine Jr.go ?_) | refine sd ?_)
 refine call_of (c55 _ _ _ _) ?_
 have e : okWd w = (inB w.sy 1 20 && inB w.st (-1) (w.sy - 1) && inB w.gp 0 20) := rfl
 rw [e]
 cases h1 : inB w.sy 1 20
 ·repeat (first | (with_reducible first | refine Ju.go ?_ | (refine Hd.go ?_; intro K Q hK hQ; simp only [nod_imm, e_not, Bool.not_false, nod_cptr, Try.underlying3, Int.reduceNeg, e_fac, Nat.zero_add, lv_cons, List.length_nil, Nat.reduceAdd, Nat.reduceLeDiff, List.getD_cons_zero, e_ldc, e_sub, true_and, List.getD_cons_succ, e_gF, cond_true, j_one]; subst hK hQ) | refine Jr.go ?_) | refine sd ?_)
  exact end1 (fzI _)
 ·have h1' := inB_iff.1 h1
  have r : R64 (w.sy - 1) := by unfold R64; omega
  repeat (first | (with_reducible first | refine Ju.go ?_ | (refine Hd.go ?_; intro K Q hK hQ; simp only [nod_imm, e_not, Bool.not_true, nod_cptr, Try.underlying3, Int.reduceNeg, e_fac, Nat.zero_add, lv_cons, List.length_nil, Nat.reduceAdd, Nat.reduceLeDiff, List.getD_cons_zero, e_ldc, e_sub, r, true_and, List.getD_cons_succ, e_gF, cond_false]; subst hK hQ) | refine Jr.go ?_) | refine sd ?_)
  refine call_of (c55 _ _ _ _) ?_
  repeat (first | (with_reducible first | refine Ju.go ?_ | (refine Hd.go ?_; intro K Q hK hQ; simp only [Int.reduceNeg, nod_imm, e_not, nod_cptr, e_fac, Nat.reduceAdd, lv_cons, List.length_nil, Nat.zero_add, Nat.reduceLeDiff, List.getD_cons_succ, List.getD_cons_zero, e_ldc, true_and, e_gF]; subst hK hQ) | refine Jr.go ?_) | refine sd ?_)
  refine jo_n (c55 _ _ _ _) ?_
  rw [Bool.true_and, Bool.not_and]
  exact end1 (fzI _)
theorem c59 (l : List Wd) (H : Hp) (hl : l.length ≤ 9223372036854775807) : Ret Try.prog 59 [.arr (l.map wdV) .no] H (B (okWs l)) H := by
 refine mk59 _ rfl (Nat.le_refl _) (.inl rfl) ?_
 simp only [vc59, real]
 repeat (first | (with_reducible first | refine Ju.go ?_ | (refine Hd.go ?_; intro K Q hK hQ; simp only [nod_arr, nd_no, e_lenA, List.length_map, nod_imm, Try.underlying3, e_leq, e_gT]; subst hK hQ) | refine Jr.go ?_) | refine sd ?_)
 refine ja_n (c86 l 87 [] (fun w => !okWd w) _ hl fun w _ => c87 w _) ?_
 have a1 : decide ((l.length : Int) ≤ 60) = decide (l.length ≤ 60) := by rw [decide_eq_decide]; omega
 rw [any_neg, Bool.not_not, a1]
 exact end1 (fzI _)
theorem c89 (r : Rk) (H : Hp) : Ret Try.prog 89 [rkV r] H (B (!okRk r)) H := by
 refine mk89 _ rfl (Nat.le_refl _) (.inl rfl) ?_
 simp only [vc89, real]
 repeat (first | (with_reducible first | refine Ju.go ?_ | (refine Hd.go ?_; intro K Q hK hQ; simp only [nod_agg, List.map_cons, nodL_imm, List.map_nil, e_bxI, okE_agg, lv_cons, List.length_nil, Nat.zero_add, Nat.reduceAdd, all_c, ck_I, all_n, Bool.and_self, and_true, true_and, nod_cptr, e_fac, Nat.reduceLeDiff, List.getD_cons_zero, e_ldc, nod_imm, e_lss, e_gtr, e_gF, j_or', j_one, List.getD_cons_succ]; subst hK hQ) | refine Jr.go ?_) | refine sd ?_)
 refine jo_n (c55 _ _ _ _) ?_
 repeat (first | (with_reducible first | refine Ju.go ?_ | (refine Hd.go ?_; intro K Q hK hQ; simp only [nod_imm, nod_cptr, e_fac, Nat.reduceAdd, lv_cons, List.length_nil, Nat.zero_add, Nat.reduceLeDiff, List.getD_cons_succ, List.getD_cons_zero, e_ldc, true_and, e_gF]; subst hK hQ) | refine Jr.go ?_) | refine sd ?_)
 refine jo_n (c55 _ _ _ _) ?_
 have a1 : (decide (r.k < 1) || decide (6 < r.k)) = !inB r.k 1 6 := by
  unfold inB
  rw [Bool.not_and, ← decide_not, ← decide_not]
  simp only [Int.not_le]
 rw [a1]
 have e : (!inB r.k 1 6 || !inB r.l 1 2 || !inB r.b 0 400) = !okRk r := by unfold okRk; simp only [Bool.not_and]
 rw [e]
 exact end1 (fzI _)
theorem c60 (l : List Rk) (H : Hp) (hl : l.length ≤ 9223372036854775807) : Ret Try.prog 60 [.arr (l.map rkV) .no] H (B (okRs l)) H := by
 refine mk60 _ rfl (Nat.le_refl _) (.inl rfl) ?_
 simp only [vc60, real]
 repeat (first | (with_reducible first | refine Ju.go ?_ | (refine Hd.go ?_; intro K Q hK hQ; simp only [nod_arr, nd_no, e_lenA, List.length_map, nod_imm, Try.underlying3, e_leq, e_gT]; subst hK hQ) | refine Jr.go ?_) | refine sd ?_)
 refine ja_n (c88 l 89 [] (fun w => !okRk w) _ hl fun w _ => c89 w _) ?_
 have a1 : decide ((l.length : Int) ≤ 20) = decide (l.length ≤ 20) := by rw [decide_eq_decide]; omega
 rw [any_neg, Bool.not_not, a1]
 exact end1 (fzI _)
def syS (l : List Wd) : Int := (l.map (·.sy)).sum
theorem syS_rng {l : List Wd} (h : ∀ w, w ∈ l → okWd w = true) : 0 ≤ syS l ∧ syS l ≤ l.length * 20 := by
 unfold syS
 induction l with
 | nil => simp
 | cons a l ih =>
  have h1 := ih fun w hw => h w (List.mem_cons_of_mem _ hw)
  have h2 := h a (by simp)
  unfold okWd at h2
  simp only [Bool.and_eq_true, inB_iff] at h2
  simp only [List.map_cons, List.sum_cons, List.length_cons]
  omega
theorem c114 (l : List Wd) (H : Hp) (hl : l.length ≤ 1000) (h : ∀ w, w ∈ l → okWd w = true) : Ret Try.prog 114 [.arr (l.map wdV) .no] H (I (syS l)) H := by
 refine mk114 _ rfl (Nat.le_refl _) (.inl rfl) ?_
 simp only [vc114, real]
 repeat (first | (with_reducible first | refine Ju.go ?_ | (refine Hd.go ?_; intro K Q hK hQ; simp only [nod_arr, nd_no, e_lenA, List.length_map]; subst hK hQ) | refine Jr.go ?_) | refine sd ?_)
 refine loop_of (fun i : Nat => i ≤ l.length) (fun i => [I (syS (l.take i)), .arr (l.map wdV) .no, I l.length, I i]) (fun _ => H) (fun i => l.length - i) 0 (Nat.zero_le _) rfl rfl ?_
 intro i hi
 repeat (first | (with_reducible first | refine Ju.go ?_ | (refine Hd.go ?_; intro K Q hK hQ; simp only [List.getD_cons_succ, List.getD_cons_zero, nod_imm, Try.underlying3, e_lss, e_cond, decide_eq_true_eq]; subst hK hQ) | refine Jr.go ?_) | refine sd ?_)
 by_cases hlt : i < l.length
 ·have d : (i : Int) < l.length := by omega
  have hs : syS (l.take (i + 1)) = syS (l.take i) + (l.getD i default).sy := by unfold syS; rw [take_snocA l default hlt, List.map_append, List.sum_append]; simp
  have h1 := syS_rng (l := l.take (i + 1)) fun x hx => h x (mem_take hx)
  rw [List.length_take, hs] at h1
  have r : R64 (syS (l.take i) + (l.getD i default).sy) := by unfold R64; omega
  repeat (first | (with_reducible first | refine Ju.go ?_ | (refine Hd.go ?_; intro K Q hK hQ; simp only [d, if_true, List.getD_cons_succ, List.getD_cons_zero, nod_arr, nd_no, nod_imm, ix_wd, Int.toNat_natCast, true_and, nod_cptr, e_ldcA, lv_cons, List.length_nil, Nat.zero_add, Nat.reduceAdd, nod_agg, List.map_cons, nodL_imm, List.map_nil, e_bxI, okE_agg, all_c, ck_I, ck_B, all_n, Bool.and_self, and_true, e_fac, Nat.reduceLeDiff, e_ldc, Try.underlying3, e_add, r]; subst hK hQ) | refine Jr.go ?_) | refine sd ?_)
  exact ⟨i + 1, by omega, by rw [hs]; rfl, rfl, by omega⟩
 ·have d : ¬ (i : Int) < l.length := by omega
  repeat (first | (with_reducible first | refine Ju.go ?_ | (refine Hd.go ?_; intro K Q hK hQ; simp only [d, if_false]; subst hK hQ) | refine Jr.go ?_) | refine sd ?_)
  rw [List.take_of_length_le (by omega)]
  exact end1 (fzI _)
theorem c122 (n : Int) (H : Hp) : Ret Try.prog 122 [I n] H (B false) H := by
 have e : decide (¬ n = n) = false := by simp
 refine mk122 _ rfl (Nat.le_refl _) (.inl rfl) ?_
 simp only [vc122, real]
 repeat (first | (with_reducible first | refine Ju.go ?_ | (refine Hd.go ?_; intro K Q hK hQ; simp only [nod_imm, Try.underlying3, e_neq, decide_true, Bool.not_true]; subst hK hQ) | refine Jr.go ?_) | refine sd ?_)
 exact end1 (fzI _)
def cmp1 (a b : Int) : Int := if a < b then -1 else if b < a then 1 else 0
theorem c115 (a b : Int) (H : Hp) : Ret Try.prog 115 [I a, I b] H (I (cmp1 a b)) H := by
 by_cases h1 : a < b
 ·have e : cmp1 a b = -1 := if_pos h1
  rw [e]
  refine mk115 _ _ rfl (Nat.le_refl _) (.inl rfl) ?_
  simp only [vc115, real]
  repeat (first | (with_reducible first | refine Ju.go ?_ | (refine Hd.go ?_; intro K Q hK hQ; simp only [nod_imm]; subst hK hQ) | refine Jr.go ?_) | refine sd ?_)
  refine call_of (c122 _ _) ?_
  repeat (first | (with_reducible first | refine Ju.go ?_ | (refine Hd.go ?_; intro K Q hK hQ; simp only [nod_imm]; subst hK hQ) | refine Jr.go ?_) | refine sd ?_)
  refine call_of (c122 _ _) ?_
  repeat (first | (with_reducible first | refine Ju.go ?_ | (refine Hd.go ?_; intro K Q hK hQ; simp only [nod_imm, e_cond, Bool.false_eq_true, if_false, List.getD_cons_succ, List.getD_cons_zero, Try.underlying3, e_lss, h1, decide_true, if_true]; subst hK hQ) | refine Jr.go ?_) | refine sd ?_)
  exact end1 (fzI _)
 ·by_cases h2 : b < a
  ·have e : cmp1 a b = 1 := (if_neg h1).trans (if_pos h2)
   rw [e]
   refine mk115 _ _ rfl (Nat.le_refl _) (.inl rfl) ?_
   simp only [vc115, real]
   repeat (first | (with_reducible first | refine Ju.go ?_ | (refine Hd.go ?_; intro K Q hK hQ; simp only [nod_imm]; subst hK hQ) | refine Jr.go ?_) | refine sd ?_)
   refine call_of (c122 _ _) ?_
   repeat (first | (with_reducible first | refine Ju.go ?_ | (refine Hd.go ?_; intro K Q hK hQ; simp only [nod_imm]; subst hK hQ) | refine Jr.go ?_) | refine sd ?_)
   refine call_of (c122 _ _) ?_
   repeat (first | (with_reducible first | refine Ju.go ?_ | (refine Hd.go ?_; intro K Q hK hQ; simp only [nod_imm, e_cond, Bool.false_eq_true, if_false, List.getD_cons_succ, List.getD_cons_zero, Try.underlying3, e_lss, h1, decide_false, e_gtr, h2, decide_true, if_true]; subst hK hQ) | refine Jr.go ?_) | refine sd ?_)
   exact end1 (fzI _)
  ·have e : cmp1 a b = 0 := (if_neg h1).trans (if_neg h2)
   rw [e]
   refine mk115 _ _ rfl (Nat.le_refl _) (.inl rfl) ?_
   simp only [vc115, real]
   repeat (first | (with_reducible first | refine Ju.go ?_ | (refine Hd.go ?_; intro K Q hK hQ; simp only [nod_imm]; subst hK hQ) | refine Jr.go ?_) | refine sd ?_)
   refine call_of (c122 _ _) ?_
   repeat (first | (with_reducible first | refine Ju.go ?_ | (refine Hd.go ?_; intro K Q hK hQ; simp only [nod_imm]; subst hK hQ) | refine Jr.go ?_) | refine sd ?_)
   refine call_of (c122 _ _) ?_
   repeat (first | (with_reducible first | refine Ju.go ?_ | (refine Hd.go ?_; intro K Q hK hQ; simp only [nod_imm, e_cond, Bool.false_eq_true, if_false, List.getD_cons_succ, List.getD_cons_zero, Try.underlying3, e_lss, h1, decide_false, e_gtr, h2]; subst hK hQ) | refine Jr.go ?_) | refine sd ?_)
   exact end1 (fzI _)
def lexL : List Int → List Int → Bool
 | a :: p, b :: q => if a = b then lexL p q else decide (a < b)
 | _, _ => false
def cmpL : List Int → List Int → Int
 | a :: p, b :: q => if a = b then cmpL p q else if a < b then -1 else 1
 | _, _ => 0
theorem cmpL_lex : ∀ a b : List Int, decide (cmpL a b < 0) = lexL a b
 | [], _ => rfl
 | _ :: _, [] => rfl
 | a :: p, b :: q => by
  unfold cmpL lexL
  by_cases h : a = b
  ·rw [if_pos h, if_pos h]; exact cmpL_lex p q
  ·rw [if_neg h, if_neg h]
   by_cases h1 : a < b
   ·rw [if_pos h1, decide_eq_true h1]; rfl
   ·rw [if_neg h1, decide_eq_false h1]; rfl
theorem cmpL_at : ∀ (a b : List Int) (i : Nat), a.length = b.length → i < a.length → a.take i = b.take i → a.getD i 0 ≠ b.getD i 0 → cmpL a b = cmp1 (a.getD i 0) (b.getD i 0)
 | [], _, i, _, h, _, _ => by simp at h
 | _ :: _, [], i, hl, _, _, _ => by simp at hl
 | a :: p, b :: q, 0, _, _, _, hn => by
  simp only [List.getD_cons_zero] at hn ⊢
  unfold cmpL cmp1
  rw [if_neg hn]
  by_cases h1 : a < b
  ·rw [if_pos h1, if_pos h1]
  ·rw [if_neg h1, if_neg h1, if_pos (by omega)]
 | a :: p, b :: q, i + 1, hl, h, ht, hn => by
  simp only [List.take_succ_cons, List.cons.injEq, List.getD_cons_succ] at ht hn ⊢
  unfold cmpL
  rw [if_pos ht.1]
  exact cmpL_at p q i (by simpa using hl) (by simpa using h) ht.2 hn
theorem cmpL_self : ∀ a : List Int, cmpL a a = 0
 | [] => rfl
 | a :: p => by unfold cmpL; rw [if_pos rfl]; exact cmpL_self p
theorem c92 (l m : List Int) (b c : Nat) (H : Hp) (hb : H[b]? = some (.cells (l.map I))) (hc : H[c]? = some (.cells (m.map I))) (hl : l.length = m.length) (hn : l.length ≤ 1000) : Ret Try.prog 92 [.sl b 0 l.length l.length 1, .sl c 0 m.length m.length 1] H (I (cmpL l m)) H := by
 refine mk92 _ _ rfl (Nat.le_refl _) (.inl rfl) ?_
 simp only [vc92, real]
 repeat (first | (with_reducible first | refine Ju.go ?_ | (refine Hd.go ?_; intro K Q hK hQ; simp only [nod_sl, e_lenS]; subst hK hQ) | refine Jr.go ?_) | refine sd ?_)
 refine loop_of (fun i : Nat => i ≤ l.length ∧ l.take i = m.take i) (fun i => [.sl b 0 l.length l.length 1, .sl c 0 m.length m.length 1, .sl b 0 l.length l.length 1, I l.length, I i]) (fun _ => H) (fun i => l.length - i) 0 ⟨Nat.zero_le _, rfl⟩ rfl rfl ?_
 rintro i ⟨hi, ht⟩
 repeat (first | (with_reducible first | refine Ju.go ?_ | (refine Hd.go ?_; intro K Q hK hQ; simp only [List.getD_cons_succ, List.getD_cons_zero, nod_imm, Try.underlying3, e_lss, e_cond, decide_eq_true_eq]; subst hK hQ) | refine Jr.go ?_) | refine sd ?_)
 by_cases hlt : i < l.length
 ·have d : (i : Int) < l.length := by omega
  have d2 : ¬ (m.length : Int) ≤ i := by omega
  have d3 : (i : Int) < m.length := by omega
  have d4 : i < m.length := by omega
  repeat (first | (with_reducible first | refine Ju.go ?_ | (refine Hd.go ?_; intro K Q hK hQ; simp only [d, if_true, List.getD_cons_succ, List.getD_cons_zero, nod_sl, nod_imm, e_ixS, Int.toNat_natCast, Nat.mul_one, Nat.zero_add, true_and, nod_ptr, ldI_at hb, hlt, e_lenS, Try.underlying3, e_geq, d2, decide_false, e_cond, Bool.false_eq_true, if_false, d3, ldI_at hc, d4]; subst hK hQ) | refine Jr.go ?_) | refine sd ?_)
  refine call_of (c115 _ _ _) ?_
  by_cases he : l.getD i 0 = m.getD i 0
  ·have e : cmp1 (l.getD i 0) (m.getD i 0) = 0 := by rw [he]; unfold cmp1; rw [if_neg (by omega), if_neg (by omega)]
   rw [e]
   repeat (first | (with_reducible first | refine Ju.go ?_ | (refine Hd.go ?_; intro K Q hK hQ; simp only [nod_imm, Try.underlying3, e_neq, decide_true, Bool.not_true, e_cond, Bool.false_eq_true, if_false, List.getD_cons_succ, List.getD_cons_zero, e_add]; subst hK hQ) | refine Jr.go ?_) | refine sd ?_)
   exact ⟨i + 1, ⟨by omega, eq_take l m 0 hlt d4 ht he⟩, rfl, rfl, by omega⟩
  ·have e : cmpL l m = cmp1 (l.getD i 0) (m.getD i 0) := cmpL_at l m i hl hlt ht he
   have ne : ¬ cmp1 (l.getD i 0) (m.getD i 0) = 0 := by unfold cmp1; split; omega; split; omega; omega
   rw [e]
   repeat (first | (with_reducible first | refine Ju.go ?_ | (refine Hd.go ?_; intro K Q hK hQ; simp only [nod_imm, Try.underlying3, e_neq, ne, decide_false, Bool.not_false, e_cond, if_true]; subst hK hQ) | refine Jr.go ?_) | refine sd ?_)
   exact end1 (fzI _)
 ·have d : ¬ (i : Int) < l.length := by omega
  have d5 : ¬ (l.length : Int) < m.length := by omega
  rw [List.take_of_length_le (by omega), List.take_of_length_le (by omega)] at ht
  repeat (first | (with_reducible first | refine Ju.go ?_ | (refine Hd.go ?_; intro K Q hK hQ; simp only [d, if_false, List.getD_cons_zero, nod_sl, e_lenS, List.getD_cons_succ, nod_imm, Try.underlying3, e_lss, d5, decide_false, e_cond, Bool.false_eq_true]; subst hK hQ) | refine Jr.go ?_) | refine sd ?_)
  rw [ht, cmpL_self]
  exact end1 (fzI _)
def addL (a b : List Int) : List Int := List.zipWith (· + ·) a b
def upd (v w : List Int) (i : Nat) : List Int := addL (v.take i) (w.take i) ++ v.drop i
theorem addL_len (a b : List Int) (h : a.length = b.length) : (addL a b).length = a.length := by unfold addL; rw [List.length_zipWith]; omega
theorem addL_get {a b : List Int} (h : a.length = b.length) {i : Nat} (hi : i < a.length) : (addL a b).getD i 0 = a.getD i 0 + b.getD i 0 := by
 unfold addL
 rw [List.getD_eq_getElem?_getD, List.getElem?_zipWith, List.getElem?_eq_getElem hi, List.getElem?_eq_getElem (by omega), List.getD_eq_getElem?_getD, List.getElem?_eq_getElem hi, List.getD_eq_getElem?_getD, List.getElem?_eq_getElem (by omega)]
 rfl
theorem upd_0 (v w : List Int) : upd v w 0 = v := by unfold upd addL; simp
theorem upd_end (v w : List Int) (h : v.length = w.length) : upd v w v.length = addL v w := by
 unfold upd
 rw [List.take_of_length_le (Nat.le_refl _), List.take_of_length_le (by omega), List.drop_of_length_le (Nat.le_refl _), List.append_nil]
theorem upd_len (v w : List Int) (h : v.length = w.length) (i : Nat) : (upd v w i).length = v.length := by
 unfold upd
 rw [List.length_append, addL_len _ _ (by rw [List.length_take, List.length_take, h]), List.length_take, List.length_drop]; omega
theorem upd_get (v w : List Int) (h : v.length = w.length) {i : Nat} (hi : i < v.length) : (upd v w i).getD i 0 = v.getD i 0 := by
 have hl : (addL (v.take i) (w.take i)).length = i := by rw [addL_len _ _ (by rw [List.length_take, List.length_take, h]), List.length_take]; omega
 unfold upd
 rw [List.getD_eq_getElem?_getD, List.getElem?_append_right (by omega), hl, Nat.sub_self, List.getElem?_drop, Nat.add_zero, List.getD_eq_getElem?_getD]
theorem addL_snoc (a b : List Int) (x y : Int) (h : a.length = b.length) : addL (a ++ [x]) (b ++ [y]) = addL a b ++ [x + y] := by
 unfold addL
 rw [List.zipWith_append h]
 rfl
theorem upd_set (v w : List Int) (h : v.length = w.length) {i : Nat} (hi : i < v.length) : (upd v w i).set i (v.getD i 0 + w.getD i 0) = upd v w (i + 1) := by
 have hl : (addL (v.take i) (w.take i)).length = i := by rw [addL_len _ _ (by rw [List.length_take, List.length_take, h]), List.length_take]; omega
 unfold upd
 rw [List.set_append_right _ _ (by omega), hl, Nat.sub_self, take_snocA v 0 hi, take_snocA w 0 (by omega), addL_snoc _ _ _ _ (by rw [List.length_take, List.length_take, h]), List.append_assoc]
 congr 1
 rw [List.drop_eq_getElem_cons hi]; rfl
theorem upd_skip (v w : List Int) (h : v.length = w.length) {i : Nat} (hi : i < v.length) (h0 : w.getD i 0 = 0) : upd v w (i + 1) = upd v w i := by
 rw [← upd_set v w h hi, h0, Int.add_zero]
 refine List.ext_getElem? fun j => ?_
 by_cases e : i = j
 ·subst e
  have hi2 : i < (upd v w i).length := by rw [upd_len v w h]; exact hi
  rw [List.getElem?_set_self hi2, List.getElem?_eq_getElem hi2, ← upd_get v w h hi, List.getD_eq_getElem?_getD, List.getElem?_eq_getElem hi2]; rfl
 ·rw [List.getElem?_set_ne e]
structure Stt where
 g : Nat
 f1 : Nat
 f2 : Nat
 b1 : Int
 b2 : Int
deriving DecidableEq
structure Sr where
 ws : List Wd
 rs : List Rk
 l1 : Bool
 l2 : Bool
 c1 : Int
 c2 : Int
abbrev sttV (s : Stt) : V := .agg [I s.g, I 0, I s.f1, I s.f2, I 0, I s.b1, I s.b2]
abbrev srC (S : Sr) (bm : Nat) : List V := [.arr (S.ws.map wdV) .no, .arr (S.rs.map rkV) .no, B false, B S.l1, B S.l2, I 0, I S.c1, I S.c2, .map bm]
def frL (s : Stt) (l : Int) : Nat := if l = 1 then s.f1 else s.f2
def bkL (s : Stt) (l : Int) : Int := if l = 1 then s.b1 else s.b2
def lnP (r : Rk) (n : Int) : Int := if r.k = 1 then max 0 (n - r.b) else max 0 (r.b - n)
def endT (S : Sr) (s : Stt) (lv : Int) (last : Nat) (r : Rk) : Int := if lv < r.l ∨ (r.k ≠ 1 ∧ r.k ≠ 2) then 0 else lnP r (syS ((S.ws.take (last + 1)).drop (frL s r.l)))
def isP (S : Sr) (s : Stt) (lv : Int) (r : Rk) : Bool :=
 if r.k = 3 then decide (r.l ≤ lv) && decide ((S.ws.getD s.g default).gp < r.b)
 else if r.k = 4 then decide (lv < r.l) && decide (r.b ≤ (S.ws.getD s.g default).gp)
 else if r.k = 5 then decide (lv < r.l) && (S.ws.getD s.g default).fo
 else if r.k = 6 then decide (r.l ≤ lv) && decide (r.b ≤ bkL s r.l)
 else false
def decL (S : Sr) (s : Stt) (lv : Int) : List Int := addL (S.rs.map fun r => if isP S s lv r = true then 1 else 0) (S.rs.map (endT S s lv s.g))
def nxt (S : Sr) (s : Stt) (lv : Int) : Stt :=
 ⟨s.g + 1, if S.l1 = true ∧ 1 ≤ lv then s.g + 1 else s.f1, if S.l2 = true ∧ 2 ≤ lv then s.g + 1 else s.f2, if 1 ≤ lv then min (s.b1 + 1) S.c1 else s.b1, if 2 ≤ lv then min (s.b2 + 1) S.c2 else s.b2⟩
structure Sr.Ok (S : Sr) : Prop where
 wl : S.ws.length ≤ 60
 rl : S.rs.length ≤ 20
 w : ∀ w, w ∈ S.ws → okWd w = true
 r : ∀ r, r ∈ S.rs → okRk r = true
 c1 : 0 ≤ S.c1 ∧ S.c1 ≤ 400
 c2 : 0 ≤ S.c2 ∧ S.c2 ≤ 400
structure Stt.Ok (s : Stt) : Prop where
 f1 : s.f1 ≤ s.g
 f2 : s.f2 ≤ s.g
 b1 : 0 ≤ s.b1 ∧ s.b1 ≤ 400
 b2 : 0 ≤ s.b2 ∧ s.b2 ≤ 400
theorem nxt_ok {S : Sr} {s : Stt} (hS : S.Ok) (hs : s.Ok) (lv : Int) : (nxt S s lv).Ok := by
 have h1 := hs.f1
 have h2 := hs.f2
 have h3 := hs.b1
 have h4 := hs.b2
 have k1 := hS.c1
 have k2 := hS.c2
 refine ⟨?_, ?_, ?_, ?_⟩
 ·show (if S.l1 = true ∧ 1 ≤ lv then s.g + 1 else s.f1) ≤ s.g + 1
  split <;> omega
 ·show (if S.l2 = true ∧ 2 ≤ lv then s.g + 1 else s.f2) ≤ s.g + 1
  split <;> omega
 ·show 0 ≤ (if 1 ≤ lv then min (s.b1 + 1) S.c1 else s.b1) ∧ (if 1 ≤ lv then min (s.b1 + 1) S.c1 else s.b1) ≤ 400
  split <;> omega
 ·show 0 ≤ (if 2 ≤ lv then min (s.b2 + 1) S.c2 else s.b2) ∧ (if 2 ≤ lv then min (s.b2 + 1) S.c2 else s.b2) ≤ 400
  split <;> omega
theorem okRk_p {r : Rk} (h : okRk r = true) : (1 ≤ r.k ∧ r.k ≤ 6) ∧ (r.l = 1 ∨ r.l = 2) ∧ 0 ≤ r.b ∧ r.b ≤ 400 := by
 unfold okRk at h
 simp only [Bool.and_eq_true, inB_iff] at h
 omega
theorem syS_b {S : Sr} (hS : S.Ok) (a b : Nat) : 0 ≤ syS ((S.ws.take a).drop b) ∧ syS ((S.ws.take a).drop b) ≤ 1200 := by
 have h := syS_rng (l := (S.ws.take a).drop b) fun w hw => hS.w w (mem_take (List.mem_of_mem_drop hw))
 have h2 : ((S.ws.take a).drop b).length ≤ 60 := by rw [List.length_drop, List.length_take]; have := hS.wl; omega
 omega
theorem endT_rng {S : Sr} (hS : S.Ok) (s : Stt) (lv : Int) (last : Nat) {r : Rk} (hr : r ∈ S.rs) : 0 ≤ endT S s lv last r ∧ endT S s lv last r ≤ 1200 := by
 have h := okRk_p (hS.r r hr)
 have h2 := syS_b hS (last + 1) (frL s r.l)
 unfold endT lnP
 split
 ·omega
 ·split <;> omega
theorem set_last {α : Type} (G : List α) (x y : α) : (G ++ [x]).set G.length y = G ++ [y] := by
 rw [List.set_append_right _ _ (Nat.le_refl _), Nat.sub_self]; rfl
theorem ixA3 {a b c : V} {l : Int} (hl : l = 1 ∨ l = 2) (h1 : ∀ x, cutA 1 1 false [a, b, c] = x → True) {K : V → Prop} : aIxA 3 1 false (.cptr (.agg [a, b, c])) (I l) K = K (.cptr (if l = 1 then b else c)) := by
 rcases hl with rfl | rfl
 ·exact propext ⟨fun h => h.2.2.2, fun h => ⟨by decide, by decide, by show (1 : Nat) * 1 + 1 ≤ 3; decide, h⟩⟩
 ·exact propext ⟨fun h => h.2.2.2, fun h => ⟨by decide, by decide, by show (2 : Nat) * 1 + 1 ≤ 3; decide, h⟩⟩
def SAt (H : Hp) (S : Sr) (bs bm : Nat) : Prop := H[bs]? = some (.cells (srC S bm))
theorem c91 (S : Sr) (bs bm bv : Nat) (v : List Int) (s : Stt) (lv : Int) (last : Nat) (H : Hp) (hS : S.Ok) (hA : SAt H S bs bm) (hv : H[bv]? = some (.cells (v.map I))) (hvl : v.length = S.rs.length) (hne : bv ≠ bs) (hb : ∀ i, i < v.length → 0 ≤ v.getD i 0 ∧ v.getD i 0 ≤ 1000000)
    (h1 : s.f1 ≤ last) (h2 : s.f2 ≤ last) (hl : last < S.ws.length) :
    RetE Try.prog 91 [.ptr bs 0, .sl bv 0 v.length v.length 1, sttV s, I lv, I last] H (fun _ H' => H'[bv]? = some (.cells ((addL v (S.rs.map (endT S s lv last))).map I)) ∧ H.length ≤ H'.length ∧ ∀ c, c < H.length → c ≠ bv → H'[c]? = H[c]?) := by
  have hrl := hS.rl
  have hwl := hS.wl
  have hwv : v.length = (S.rs.map (endT S s lv last)).length := by rw [List.length_map]; exact hvl
  have hbl := get_lt hA
  have hvl2 := get_lt hv
  unfold SAt at hA
  refine mkE91 _ _ _ _ _ ?_
  simp only [vc91, real]
  repeat (first | (with_reducible first | refine Ju.go ?_ | (refine Hd.go ?_; intro K Q hK hQ; simp only [nod_agg, List.map_cons, nodL_imm, List.map_nil, e_bxI, okE_agg, lv_cons, List.length_nil, Nat.zero_add, Nat.reduceAdd, all_c, ck_I, all_n, Bool.and_self, and_true, true_and, nod_ptr, e_ncP, e_fa, ld_at hA, Nat.reduceLeDiff, List.getD_cons_succ, List.getD_cons_zero, nod_arr, nd_no, e_lenA, List.length_map]; subst hK hQ) | refine Jr.go ?_) | refine sd ?_)
  refine loop_of (fun q : Nat × Hp => q.1 ≤ v.length ∧ q.2[bv]? = some (.cells ((upd v (S.rs.map (endT S s lv last)) q.1).map I)) ∧ H.length ≤ q.2.length ∧ ∀ c, c < H.length → c ≠ bv → q.2[c]? = H[c]?) (fun q => [.ptr bs 0, .sl bv 0 v.length v.length 1, I lv, I last, .cptr (sttV s), .arr (S.rs.map rkV) .no, I S.rs.length, I q.1]) (·.2) (fun q => v.length - q.1) (0, H) ⟨Nat.zero_le _, by rw [upd_0]; exact hv, Nat.le_refl _, fun _ _ _ => rfl⟩ rfl rfl ?_
  rintro ⟨i, G⟩ ⟨hi, hG, hGl, hlo⟩
  simp only at hi hG hGl hlo ⊢
  repeat (first | (with_reducible first | refine Ju.go ?_ | (refine Hd.go ?_; intro K Q hK hQ; simp only [List.getD_cons_succ, List.getD_cons_zero, nod_imm, Try.underlying3, e_lss, e_cond, decide_eq_true_eq]; subst hK hQ) | refine Jr.go ?_) | refine sd ?_)
  by_cases hlt : i < v.length
  · have d : (i : Int) < S.rs.length := by omega
    have dv : (i : Int) < v.length := by omega
    have hmem := getD_memA S.rs default (i := i) (by omega)
    have hr := okRk_p (hS.r _ hmem)
    have hwi : (S.rs.map (endT S s lv last)).getD i 0 = endT S s lv last (S.rs.getD i default) := by
      rw [List.getD_eq_getElem?_getD, List.getElem?_map, List.getElem?_eq_getElem (by omega), List.getD_eq_getElem?_getD, List.getElem?_eq_getElem (by omega)]; rfl
    have ug := upd_get v _ hwv hlt
    have us := upd_set v _ hwv hlt
    have uk := upd_skip v _ hwv hlt
    rw [hwi] at us uk
    have hen := endT_rng hS s lv last hmem
    have hbi := hb i hlt
    repeat (first | (with_reducible first | refine Ju.go ?_ | (refine Hd.go ?_; intro K Q hK hQ; simp only [d, if_true, List.getD_cons_succ, List.getD_cons_zero, nod_arr, nd_no, nod_imm, ix_rk, Int.toNat_natCast, true_and, nod_cptr, e_ldcA, lv_cons, List.length_nil, Nat.zero_add, Nat.reduceAdd, e_bx, okE_agg, all_c, ck_I, all_n, Bool.and_self, and_true, cl_agg, nod_ptr, e_sc0, Nat.reduceLeDiff, stV_agg, List.map_cons, nodL_imm, List.map_nil, spl_0, spl_n, e_fa, e_lc0, Try.underlying3, e_gtr, nod_nod, Nat.add_zero, e_neq, e_gT, j_and', e_gF, j_or', j_one, e_cond]; subst hK hQ) | refine Jr.go ?_) | refine sd ?_)
    generalize S.rs.getD i default = r at *
    by_cases hsk : lv < r.l ∨ (r.k ≠ 1 ∧ r.k ≠ 2)
    · have e0 : endT S s lv last r = 0 := if_pos hsk
      have e1 : (decide (lv < r.l) || !decide (r.k = 1) && !decide (r.k = 2)) = true := by
        rw [Bool.or_eq_true, decide_eq_true_eq, Bool.and_eq_true, Bool.not_eq_true', Bool.not_eq_true', decide_eq_false_iff_not, decide_eq_false_iff_not]
        exact hsk
      repeat (first | (with_reducible first | refine Ju.go ?_ | (refine Hd.go ?_; intro K Q hK hQ; simp only [e1, if_true, List.getD_cons_succ, List.getD_cons_zero, nod_imm, Try.underlying3, e_add]; subst hK hQ) | refine Jr.go ?_) | refine sd ?_)
      refine ⟨(i + 1, _), ⟨hlt, ?_, ?_, fun c hc hcn => ?_⟩, rfl, rfl, by show v.length - (i + 1) < v.length - i; omega⟩
      · show (G ++ _)[bv]? = some (Blk.cells ((upd v _ (i + 1)).map I))
        rw [uk e0, List.getElem?_append_left (by omega)]; exact hG
      · show H.length ≤ (G ++ _).length
        rw [List.length_append]; omega
      · show (G ++ _)[c]? = _
        rw [List.getElem?_append_left (by omega)]; exact hlo c hc hcn
    · have e1 : (decide (lv < r.l) || !decide (r.k = 1) && !decide (r.k = 2)) = false := by
        rw [Bool.or_eq_false_iff, decide_eq_false_iff_not, Bool.and_eq_false_iff, Bool.not_eq_false', Bool.not_eq_false', decide_eq_true_eq, decide_eq_true_eq]
        omega
      have e0 : endT S s lv last r = lnP r (syS ((S.ws.take (last + 1)).drop (frL s r.l))) := if_neg hsk
      have hsb := syS_b hS (last + 1) (frL s r.l)
      have gA : ∀ x : Blk, (G ++ [x])[bs]? = some (.cells (srC S bm)) := fun x => by rw [List.getElem?_append_left (by omega), hlo bs hbl hne.symm]; exact hA
      have gV : ∀ x : Blk, (G ++ [x])[bv]? = some (.cells ((upd v (S.rs.map (endT S s lv last)) i).map I)) := fun x => by rw [List.getElem?_append_left (by omega)]; exact hG
      have gX : ∀ x : Blk, (G ++ [x])[G.length]? = some x := fun x => tail0 _ _
      have rl1 : R64 ((last : Int) + 1) := by unfold R64; omega
      have hfr : (if r.l = 1 then I (s.f1 : Int) else I (s.f2 : Int)) = I ((frL s r.l : Nat) : Int) := by unfold frL; split <;> rfl
      have fr0 : ((frL s r.l : Nat) : Int) ≤ (last : Int) + 1 := by unfold frL; split <;> omega
      have la : (last : Int) + 1 ≤ S.ws.length := by omega
      have tn : ((last : Int) + 1).toNat = last + 1 := by omega
      have ul := upd_len v _ hwv i
      have hiu : i < (upd v (S.rs.map (endT S s lv last)) i).length := by rw [ul]; exact hlt
      repeat (first | (with_reducible first | refine Ju.go ?_ | (refine Hd.go ?_; intro K Q hK hQ; simp only [e1, Bool.false_eq_true, if_false, List.getD_cons_zero, List.getD_cons_succ, nod_imm, nod_ptr, e_ncP, e_fa, Nat.add_zero, ld_at (gA _), Nat.zero_add, lv_cons, List.length_nil, Nat.reduceAdd, Nat.reduceLeDiff, nod_arr, nd_no, true_and, ld_at (gX _), nod_cptr, e_facA, dr_s, dr_0, tk_s, tk_0, ixA3 hr.2.1 (fun _ _ => trivial), hfr, e_ldc, Try.underlying3, e_add, rl1, slc_wd, fr0, la, Int.toNat_natCast, tn]; subst hK hQ) | refine Jr.go ?_) | refine sd ?_)
      refine call_ofD (c114 _ _ (by rw [List.length_drop, List.length_take]; omega) (fun w hw => hS.w w (mem_take (List.mem_of_mem_drop hw)))) ?_
      have fin : ∀ x : Blk, ∃ s' : Nat × Hp, (s'.1 ≤ v.length ∧ s'.2[bv]? = some (.cells ((upd v (S.rs.map (endT S s lv last)) s'.1).map I)) ∧ H.length ≤ s'.2.length ∧ ∀ c, c < H.length → c ≠ bv → s'.2[c]? = H[c]?) ∧ [V.ptr bs 0, .sl bv 0 v.length v.length 1, I lv, I last, .cptr (sttV s), .arr (S.rs.map rkV) .no, I S.rs.length, I s'.1] = [V.ptr bs 0, .sl bv 0 v.length v.length 1, I lv, I last, .cptr (sttV s), .arr (S.rs.map rkV) .no, I S.rs.length, I ((i : Int) + 1)] ∧ s'.2 = (G ++ [x]).set bv (.cells ((upd v (S.rs.map (endT S s lv last)) (i + 1)).map I)) ∧ v.length - s'.1 < v.length - i := fun x =>
        ⟨(i + 1, _), ⟨hlt, List.getElem?_set_self (get_lt (gV x)), by simp only [List.length_set, List.length_append]; omega, fun c hc hcn => by rw [get_ne hcn.symm, List.getElem?_append_left (by omega)]; exact hlo c hc hcn⟩, rfl, rfl, by show v.length - (i + 1) < v.length - i; omega⟩
      by_cases hk1 : r.k = 1
      · have e2 : lnP r (syS ((S.ws.take (last + 1)).drop (frL s r.l))) = max 0 (syS ((S.ws.take (last + 1)).drop (frL s r.l)) - r.b) := if_pos hk1
        rw [e0, e2] at us hen
        have q1 : R64 (syS ((S.ws.take (last + 1)).drop (frL s r.l)) - r.b) := by unfold R64; omega
        have q2 : R64 (v.getD i 0 + max 0 (syS ((S.ws.take (last + 1)).drop (frL s r.l)) - r.b)) := by unfold R64; omega
        repeat (first | (with_reducible first | refine Ju.go ?_ | (refine Hd.go ?_; intro K Q hK hQ; simp only [List.getD_cons_zero, List.getD_cons_succ, hk1, nod_ptr, e_fa, Nat.add_zero, ld_at (gX _), Nat.zero_add, lv_cons, List.length_nil, Nat.reduceAdd, Nat.reduceLeDiff, nod_imm, true_and, e_eql, decide_true, e_cond, if_true, nod_sl, e_ixS, dv, Int.toNat_natCast, Nat.mul_one, ldI_at (gV _), hiu, ug, Try.underlying3, e_sub, q1, e_max2, e_add, q2, stI_at (gV _), us]; subst hK hQ) | refine Jr.go ?_) | refine sd ?_)
        exact fin _
      · have e2 : lnP r (syS ((S.ws.take (last + 1)).drop (frL s r.l))) = max 0 (r.b - syS ((S.ws.take (last + 1)).drop (frL s r.l))) := if_neg hk1
        rw [e0, e2] at us hen
        have q1 : R64 (r.b - syS ((S.ws.take (last + 1)).drop (frL s r.l))) := by unfold R64; omega
        have q2 : R64 (v.getD i 0 + max 0 (r.b - syS ((S.ws.take (last + 1)).drop (frL s r.l)))) := by unfold R64; omega
        repeat (first | (with_reducible first | refine Ju.go ?_ | (refine Hd.go ?_; intro K Q hK hQ; simp only [List.getD_cons_zero, List.getD_cons_succ, nod_ptr, e_fa, Nat.add_zero, ld_at (gX _), Nat.zero_add, lv_cons, List.length_nil, Nat.reduceAdd, Nat.reduceLeDiff, nod_imm, true_and, e_eql, hk1, decide_false, e_cond, Bool.false_eq_true, if_false, nod_sl, e_ixS, dv, Int.toNat_natCast, Nat.mul_one, ldI_at (gV _), hiu, ug, Try.underlying3, e_sub, q1, e_max2, e_add, q2, stI_at (gV _), us]; subst hK hQ) | refine Jr.go ?_) | refine sd ?_)
        exact fin _
  · have d : ¬ (i : Int) < S.rs.length := by omega
    obtain rfl : i = v.length := by omega
    repeat (first | (with_reducible first | refine Ju.go ?_ | (refine Hd.go ?_; intro K Q hK hQ; simp only [d, if_false]; subst hK hQ) | refine Jr.go ?_) | refine sd ?_)
    rw [upd_end v _ hwv] at hG
    exact ⟨hG, hGl, hlo⟩
theorem addL_zero : ∀ (n : Nat) (w : List Int), w.length = n → addL (List.replicate n 0) w = w
 | 0, w, h => by rw [List.length_eq_zero_iff.1 h]; rfl
 | n + 1, [], h => by simp at h
 | n + 1, x :: w, h => by
  have := addL_zero n w (by simpa using h)
  unfold addL at this ⊢
  rw [List.replicate_succ, List.zipWith_cons_cons, this, Int.zero_add]
def nxC (S : Sr) (s : Stt) (j : Nat) : List V := [I ((s.g : Int) + 1), I 0, I (if S.l1 = true ∧ 1 < j then (s.g : Int) + 1 else s.f1), I (if S.l2 = true ∧ 2 < j then (s.g : Int) + 1 else s.f2), I 0, I (if 1 < j then min (s.b1 + 1) S.c1 else s.b1), I (if 2 < j then min (s.b2 + 1) S.c2 else s.b2)]
theorem nxC_end (S : Sr) (s : Stt) {lv : Int} {j : Nat} (h : (j : Int) = lv + 1) : nxC S s j = [I ((nxt S s lv).g : Int), I 0, I (nxt S s lv).f1, I (nxt S s lv).f2, I 0, I (nxt S s lv).b1, I (nxt S s lv).b2] := by
 unfold nxC nxt
 have e1 : (1 < j) = (1 ≤ lv) := propext (by omega)
 have e2 : (2 < j) = (2 ≤ lv) := propext (by omega)
 simp only [e1, e2]
 congr 1
 congr 1
 congr 1
 ·split <;> rfl
 ·congr 1
  split <;> rfl
theorem resA_at {b o s : Nat} {cs : List V} {H : Hp} {K : V → Prop} (h : H[b]? = some (.cells cs)) : aRes s true (.ptr b o) H K = (o + s ≤ cs.length ∧ K (.agg ((cs.drop o).take s))) := by simp [aRes, h, cutA]
theorem tail1 {α : Type} (H : List α) (x y : α) (L : List α) : (H ++ x :: y :: L)[H.length + 1]? = some y := by
 rw [List.getElem?_append_right (by omega), Nat.add_sub_cancel_left]; rfl
theorem tail2 {α : Type} (H : List α) (x y z : α) (L : List α) : (H ++ x :: y :: z :: L)[H.length + 2]? = some z := by
 rw [List.getElem?_append_right (by omega), Nat.add_sub_cancel_left]; rfl
theorem c63 (S : Sr) (bs bm : Nat) (s : Stt) (lv : Int) (H : Hp) (hS : S.Ok) (hs : s.Ok) (hA : SAt H S bs bm) (hlv : 0 ≤ lv ∧ lv ≤ 2) (hg : s.g < S.ws.length) :
    RetE Try.prog 63 [.ptr bs 0, sttV s, I lv] H (fun v H' => ∃ b, H.length ≤ b ∧ v = .tup [.sl b 0 S.rs.length S.rs.length 1, sttV (nxt S s lv)] ∧ H'[b]? = some (.cells ((decL S s lv).map I)) ∧ H.length ≤ H'.length ∧ ∀ c, c < H.length → H'[c]? = H[c]?) := by
  have hrl := hS.rl
  have hwl := hS.wl
  have hbl := get_lt hA
  unfold SAt at hA
  have gA : ∀ x : List Blk, (H ++ x)[bs]? = some (.cells (srC S bm)) := fun x => get_app hA
  refine mkE63 _ _ _ ?_
  simp only [vc63, real]
  repeat (first | (with_reducible first | refine Ju.go ?_ | (refine Hd.go ?_; intro K Q hK hQ; simp only [nod_agg, List.map_cons, nodL_imm, List.map_nil, e_bxI, okE_agg, lv_cons, List.length_nil, Nat.zero_add, Nat.reduceAdd, all_c, ck_I, all_n, Bool.and_self, and_true, true_and, e_bx, cl_agg, nod_ptr, e_ncP, e_fa, ld_at (gA _), Nat.reduceLeDiff, List.getD_cons_succ, List.getD_cons_zero, nod_arr, nd_no, e_lenA, List.length_map, nod_imm, e_mkI, Int.cast_ofNat_Int, hp_len, hp_len_cons, Int.toNat_natCast, hp_assoc, hp_cons, hp_nil, Nat.add_zero, nod_cptr, e_fac, e_ldc, ix_wd, e_ldcA, ck_B, e_sc2, stV_agg, spl_0, spl_n]; subst hK hQ) | refine Jr.go ?_) | refine sd ?_)
  have hbA : ∀ l : Int, 0 ≤ l → bkL s l ≤ 400 := fun l _ => by unfold bkL; have := hs.b1; have := hs.b2; split <;> omega
  have hw0 : (List.replicate S.rs.length (0 : Int)).length = (S.rs.map fun r => if isP S s lv r = true then (1 : Int) else 0).length := by simp
  have hz : (List.replicate S.rs.length (0 : Int)).length = S.rs.length := by simp
  have hzg : ∀ i, i < S.rs.length → (List.replicate S.rs.length (0 : Int)).getD i 0 = 0 := fun i hi => by rw [List.getD_eq_getElem?_getD, List.getElem?_replicate, if_pos hi]; rfl
  have hWV : ∃ W, W = wdV (S.ws.getD s.g default) := ⟨_, rfl⟩
  refine loop_of (fun q : Nat × Hp => q.1 ≤ S.rs.length ∧ q.2[H.length]? = some (.cells [I 0, I 0, I 0, I 0, I 0, I 0, I 0]) ∧ q.2[H.length + 1]? = some (.cells ((upd (List.replicate S.rs.length 0) (S.rs.map fun r => if isP S s lv r = true then (1 : Int) else 0) q.1).map I)) ∧ q.2[H.length + 2]? = some (.cells [I (S.ws.getD s.g default).sy, I (S.ws.getD s.g default).st, I (S.ws.getD s.g default).gp, B (S.ws.getD s.g default).fo, B (S.ws.getD s.g default).co]) ∧ ∀ c, c < H.length → q.2[c]? = H[c]?) (fun q => [.ptr bs 0, I lv, .cptr (sttV s), .ptr H.length 0, .sl (H.length + 1) 0 S.rs.length S.rs.length 1, .ptr (H.length + 2) 0, .arr (S.rs.map rkV) .no, I S.rs.length, I q.1]) (·.2) (fun q => S.rs.length - q.1) (0, _) ⟨Nat.zero_le _, tail0 _ _, by rw [upd_0]; exact tail1 _ _ _ _, tail2 _ _ _ _ _, fun c hc => List.getElem?_append_left hc⟩ rfl rfl ?_
  rintro ⟨i, G⟩ ⟨hi, hGz, hGv, hGw, hlo⟩
  simp only at hi hGz hGv hGw hlo ⊢
  have hGl := get_lt hGw
  repeat (first | (with_reducible first | refine Ju.go ?_ | (refine Hd.go ?_; intro K Q hK hQ; simp only [List.getD_cons_succ, List.getD_cons_zero, nod_imm, Try.underlying3, e_lss, e_cond, decide_eq_true_eq]; subst hK hQ) | refine Jr.go ?_) | refine sd ?_)
  by_cases hlt : i < S.rs.length
  · have d : (i : Int) < S.rs.length := by omega
    have hmem := getD_memA S.rs default hlt
    have hr := okRk_p (hS.r _ hmem)
    have hwi : (S.rs.map fun r => if isP S s lv r = true then (1 : Int) else 0).getD i 0 = if isP S s lv (S.rs.getD i default) = true then 1 else 0 := by
      rw [List.getD_eq_getElem?_getD, List.getElem?_map, List.getElem?_eq_getElem hlt, List.getD_eq_getElem?_getD, List.getElem?_eq_getElem hlt]; rfl
    have ug := upd_get (List.replicate S.rs.length 0) _ hw0 (i := i) (by omega)
    have us := upd_set (List.replicate S.rs.length 0) _ hw0 (i := i) (by omega)
    have uk := upd_skip (List.replicate S.rs.length 0) _ hw0 (i := i) (by omega)
    rw [hzg i hlt] at ug us
    rw [hwi] at us uk
    repeat (first | (with_reducible first | refine Ju.go ?_ | (refine Hd.go ?_; intro K Q hK hQ; simp only [d, if_true, List.getD_cons_succ, List.getD_cons_zero, nod_arr, nd_no, nod_imm, ix_rk, Int.toNat_natCast, true_and, nod_cptr, e_ldcA, lv_cons, List.length_nil, Nat.zero_add, Nat.reduceAdd, e_bx, okE_agg, all_c, ck_I, all_n, Bool.and_self, and_true, cl_agg, nod_ptr, e_sc0, Nat.reduceLeDiff, stV_agg, List.map_cons, nodL_imm, List.map_nil, spl_0, spl_n, e_fa, Nat.add_zero, e_lc0, e_eql, e_cond, decide_eq_true_eq]; subst hK hQ) | refine Jr.go ?_) | refine sd ?_)
    generalize S.rs.getD i default = r at *
    have gX : (G ++ [Blk.cells [I r.k, I r.l, I r.b]])[G.length]? = some (.cells [I r.k, I r.l, I r.b]) := tail0 _ _
    have gW : (G ++ [Blk.cells [I r.k, I r.l, I r.b]])[H.length + 2]? = some (.cells [I (S.ws.getD s.g default).sy, I (S.ws.getD s.g default).st, I (S.ws.getD s.g default).gp, B (S.ws.getD s.g default).fo, B (S.ws.getD s.g default).co]) := by rw [List.getElem?_append_left hGl]; exact hGw
    have gV : (G ++ [Blk.cells [I r.k, I r.l, I r.b]])[H.length + 1]? = some (.cells ((upd (List.replicate S.rs.length 0) (S.rs.map fun r => if isP S s lv r = true then (1 : Int) else 0) i).map I)) := by rw [List.getElem?_append_left (by omega)]; exact hGv
    generalize hR : Rn _ = R
    have key : R [.ptr bs 0, I lv, .cptr (sttV s), .ptr H.length 0, .sl (H.length + 1) 0 S.rs.length S.rs.length 1, .ptr (H.length + 2) 0, I i, B (isP S s lv r), .arr (S.rs.map rkV) .no, I S.rs.length, I i] (G ++ [.cells [I r.k, I r.l, I r.b]]) := by
      subst hR
      have ul := upd_len (List.replicate S.rs.length 0) _ hw0 i
      have hiu : i < (upd (List.replicate S.rs.length 0) (S.rs.map fun r => if isP S s lv r = true then (1 : Int) else 0) i).length := by rw [ul, hz]; exact hlt
      have q2 : R64 ((0 : Int) + 1) := by unfold R64; omega
      cases his : isP S s lv r
      · rw [his] at uk
        repeat (first | (with_reducible first | refine Ju.go ?_ | (refine Hd.go ?_; intro K Q hK hQ; simp only [List.getD_cons_succ, List.getD_cons_zero, nod_imm, e_cond, Bool.false_eq_true, if_false, Try.underlying3, e_add]; subst hK hQ) | refine Jr.go ?_) | refine sd ?_)
        refine ⟨(i + 1, _), ⟨hlt, ?_, ?_, ?_, fun c hc => ?_⟩, rfl, rfl, by show S.rs.length - (i + 1) < S.rs.length - i; omega⟩
        · show (G ++ _)[H.length]? = _
          rw [List.getElem?_append_left (by omega)]; exact hGz
        · show (G ++ _)[H.length + 1]? = some (Blk.cells ((upd _ _ (i + 1)).map I))
          rw [uk rfl]; exact gV
        · exact gW
        · show (G ++ _)[c]? = _
          rw [List.getElem?_append_left (by omega)]; exact hlo c hc
      · rw [his, if_pos rfl] at us
        repeat (first | (with_reducible first | refine Ju.go ?_ | (refine Hd.go ?_; intro K Q hK hQ; simp only [List.getD_cons_succ, List.getD_cons_zero, nod_imm, e_cond, if_true, nod_sl, e_ixS, d, Int.toNat_natCast, Nat.mul_one, Nat.zero_add, true_and, nod_ptr, ldI_at gV, hiu, ug, Try.underlying3, e_add, q2, stI_at gV, us]; subst hK hQ) | refine Jr.go ?_) | refine sd ?_)
        refine ⟨(i + 1, _), ⟨hlt, ?_, List.getElem?_set_self (get_lt gV), ?_, fun c hc => ?_⟩, rfl, rfl, by show S.rs.length - (i + 1) < S.rs.length - i; omega⟩
        · show (List.set (G ++ _) (H.length + 1) _)[H.length]? = _
          rw [get_ne (by omega), List.getElem?_append_left (by omega)]; exact hGz
        · show (List.set (G ++ _) (H.length + 1) _)[H.length + 2]? = _
          rw [get_ne (by omega)]; exact gW
        · show (List.set (G ++ _) (H.length + 1) _)[c]? = _
          rw [get_ne (by omega), List.getElem?_append_left (by omega)]; exact hlo c hc
    have hk := hr.1
    have ht : (if r.l = 1 then I s.b1 else I s.b2) = I (bkL s r.l) := by unfold bkL; split <;> rfl
    by_cases k3 : r.k = 3
    · have e : isP S s lv r = (decide (r.l ≤ lv) && decide ((S.ws.getD s.g default).gp < r.b)) := if_pos k3
      rw [e] at key
      rw [if_pos k3]
      repeat (first | (with_reducible first | refine Ju.go ?_ | (refine Hd.go ?_; intro K Q hK hQ; simp only [List.getD_cons_succ, List.getD_cons_zero, nod_ptr, e_fa, Nat.zero_add, ld_at gX, Nat.reduceAdd, lv_cons, List.length_nil, Nat.reduceLeDiff, nod_imm, true_and, Try.underlying3, e_geq, ld_at gW, e_lss, e_gT, j_and', j_one]; subst hK hQ) | refine Jr.go ?_) | refine sd ?_)
      exact key
    · have e3 : isP S s lv r = if r.k = 4 then decide (lv < r.l) && decide (r.b ≤ (S.ws.getD s.g default).gp) else if r.k = 5 then decide (lv < r.l) && (S.ws.getD s.g default).fo else if r.k = 6 then decide (r.l ≤ lv) && decide (r.b ≤ bkL s r.l) else false := if_neg k3
      by_cases k4 : r.k = 4
      · rw [if_pos k4] at e3
        rw [e3] at key
        repeat (first | (with_reducible first | refine Ju.go ?_ | (refine Hd.go ?_; intro K Q hK hQ; simp only [k3, if_false, decide_false, List.getD_cons_succ, List.getD_cons_zero, nod_imm, e_eql, e_cond, decide_eq_true_eq]; subst hK hQ) | refine Jr.go ?_) | refine sd ?_)
        rw [if_pos k4]
        repeat (first | (with_reducible first | refine Ju.go ?_ | (refine Hd.go ?_; intro K Q hK hQ; simp only [List.getD_cons_succ, List.getD_cons_zero, nod_ptr, e_fa, Nat.zero_add, ld_at gX, Nat.reduceAdd, lv_cons, List.length_nil, Nat.reduceLeDiff, nod_imm, true_and, Try.underlying3, e_lss, ld_at gW, e_geq, e_gT, j_and', j_one]; subst hK hQ) | refine Jr.go ?_) | refine sd ?_)
        exact key
      · rw [if_neg k4] at e3
        by_cases k5 : r.k = 5
        · rw [if_pos k5] at e3
          rw [e3] at key
          repeat (first | (with_reducible first | refine Ju.go ?_ | (refine Hd.go ?_; intro K Q hK hQ; simp only [k3, if_false, decide_false, List.getD_cons_succ, List.getD_cons_zero, nod_imm, e_eql, k4, e_cond, Bool.false_eq_true, decide_eq_true_eq]; subst hK hQ) | refine Jr.go ?_) | refine sd ?_)
          rw [if_pos k5]
          repeat (first | (with_reducible first | refine Ju.go ?_ | (refine Hd.go ?_; intro K Q hK hQ; simp only [List.getD_cons_succ, List.getD_cons_zero, nod_ptr, e_fa, Nat.zero_add, ld_at gX, Nat.reduceAdd, lv_cons, List.length_nil, Nat.reduceLeDiff, nod_imm, true_and, Try.underlying3, e_lss, ld_at gW, e_gT, j_and', j_one]; subst hK hQ) | refine Jr.go ?_) | refine sd ?_)
          exact key
        · rw [if_neg k5] at e3
          by_cases k6 : r.k = 6
          · rw [if_pos k6] at e3
            rw [e3] at key
            repeat (first | (with_reducible first | refine Ju.go ?_ | (refine Hd.go ?_; intro K Q hK hQ; simp only [k3, if_false, decide_false, List.getD_cons_succ, List.getD_cons_zero, nod_imm, e_eql, k4, e_cond, Bool.false_eq_true, k5, decide_eq_true_eq]; subst hK hQ) | refine Jr.go ?_) | refine sd ?_)
            rw [if_pos k6]
            repeat (first | (with_reducible first | refine Ju.go ?_ | (refine Hd.go ?_; intro K Q hK hQ; simp only [List.getD_cons_succ, List.getD_cons_zero, nod_ptr, e_fa, Nat.zero_add, ld_at gX, Nat.reduceAdd, lv_cons, List.length_nil, Nat.reduceLeDiff, nod_imm, true_and, Try.underlying3, e_geq, nod_cptr, e_facA, dr_s, dr_0, tk_s, tk_0, ixA3 hr.2.1 (fun _ _ => trivial), ht, e_ldc, e_gT, j_and', j_one]; subst hK hQ) | refine Jr.go ?_) | refine sd ?_)
            exact key
          · rw [if_neg k6] at e3
            rw [e3] at key
            repeat (first | (with_reducible first | refine Ju.go ?_ | (refine Hd.go ?_; intro K Q hK hQ; simp only [k3, if_false, decide_false, List.getD_cons_succ, List.getD_cons_zero, nod_imm, e_eql, k4, e_cond, Bool.false_eq_true, k5, k6]; subst hK hQ) | refine Jr.go ?_) | refine sd ?_)
            exact key
  · have d : ¬ (i : Int) < S.rs.length := by omega
    obtain rfl : i = S.rs.length := by omega
    repeat (first | (with_reducible first | refine Ju.go ?_ | (refine Hd.go ?_; intro K Q hK hQ; simp only [d, if_false, List.getD_cons_succ, List.getD_cons_zero, nod_cptr, e_ldcA, lv_cons, List.length_nil, Nat.zero_add, Nat.reduceAdd, true_and, e_fac, Nat.reduceLeDiff, e_ldc, nod_ptr, nod_sl, nod_agg, List.map_cons, nodL_imm, List.map_nil, nod_imm]; subst hK hQ) | refine Jr.go ?_) | refine sd ?_)
    have hwlen : (S.rs.map fun r => if isP S s lv r = true then (1 : Int) else 0).length = S.rs.length := by simp
    have hGv2 : G[H.length + 1]? = some (.cells ((S.rs.map fun r => if isP S s lv r = true then (1 : Int) else 0).map I)) := by
      have e := upd_end (List.replicate S.rs.length 0) _ hw0
      rw [hz, addL_zero _ _ hwlen] at e
      rw [e] at hGv
      exact hGv
    have c := c91 S bs bm (H.length + 1) _ s lv s.g G hS (show G[bs]? = _ by rw [hlo bs hbl]; exact hA) hGv2 hwlen (by omega) (fun i hi => by
      rw [List.getD_eq_getElem?_getD, List.getElem?_map, List.getElem?_eq_getElem (by rw [hwlen] at hi; exact hi)]
      show 0 ≤ (if _ then (1 : Int) else 0) ∧ (if _ then (1 : Int) else 0) ≤ 1000000
      split <;> omega) hs.f1 hs.f2 hg
    rw [hwlen] at c
    refine callE_of c ?_
    clear c
    rintro v G2 ⟨g1, g2, g3⟩
    have hGz2 : G2[H.length]? = some (.cells [I 0, I 0, I 0, I 0, I 0, I 0, I 0]) := by rw [g3 _ (by omega) (by omega)]; exact hGz
    have lo2 : ∀ c, c < H.length → G2[c]? = H[c]? := fun c hc => by rw [g3 c (by omega) (by omega)]; exact hlo c hc
    have hG2l := get_lt g1
    clear g3 hlo hGv hGv2 hGw hGz
    have rg : R64 ((s.g : Int) + 1) := by unfold R64; omega
    repeat (first | (with_reducible first | refine Ju.go ?_ | (refine Hd.go ?_; intro K Q hK hQ; simp only [List.getD_cons_zero, List.getD_cons_succ, nod_cptr, e_ldcA, lv_cons, List.length_nil, Nat.zero_add, Nat.reduceAdd, true_and, e_bx, okE_agg, all_c, ck_I, all_n, Bool.and_self, and_true, cl_agg, nod_ptr, e_sc0, Nat.reduceLeDiff, stV_agg, List.map_cons, nodL_imm, List.map_nil, spl_0, spl_n, e_fa, Nat.add_zero, e_lc0, nod_imm, Try.underlying3, e_add, rg, stV_imm, okE_I, cl_imm]; subst hK hQ) | refine Jr.go ?_) | refine sd ?_)
    have en1 : nxC S s 1 = [I ((s.g : Int) + 1), I 0, I s.f1, I s.f2, I 0, I s.b1, I s.b2] := by unfold nxC; simp
    have hb1 := hs.b1
    have hb2 := hs.b2
    refine loop_of (fun q : Nat × Hp => 1 ≤ q.1 ∧ (q.1 : Int) ≤ lv + 1 ∧ q.2[H.length]? = some (.cells [I 0, I 0, I 0, I 0, I 0, I 0, I 0]) ∧ q.2[H.length + 1]? = some (.cells ((decL S s lv).map I)) ∧ q.2[G2.length]? = some (.cells (nxC S s q.1)) ∧ (∀ c, c < H.length → q.2[c]? = H[c]?) ∧ H.length ≤ q.2.length) (fun q => [.ptr bs 0, I lv, .cptr (sttV s), .ptr H.length 0, .sl (H.length + 1) 0 S.rs.length S.rs.length 1, .ptr G2.length 0, I q.1]) (·.2) (fun q => (lv + 1).toNat - q.1) (1, _) ⟨Nat.le_refl _, by show (1 : Int) ≤ lv + 1; omega, by show (G2 ++ _)[H.length]? = _; exact get_app hGz2, by show (G2 ++ _)[H.length + 1]? = _; exact get_app g1, by show (G2 ++ _)[G2.length]? = some (Blk.cells (nxC S s 1)); rw [en1]; exact tail0 _ _, fun c hc => by show (G2 ++ _)[c]? = _; rw [List.getElem?_append_left (by omega)]; exact lo2 c hc, by show _ ≤ (G2 ++ _).length; simp; omega⟩ rfl rfl ?_
    rintro ⟨j, K⟩ ⟨hj1, hj2, kz, kv, kn, klo, kln⟩
    simp only at hj1 hj2 kz kv kn klo kln ⊢
    have kA : K[bs]? = some (.cells (srC S bm)) := by rw [klo bs hbl]; exact hA
    have knl := get_lt kn
    have t1 : Int.toNat 1 = 1 := rfl
    have t2 : Int.toNat 2 = 2 := rfl
    repeat (first | (with_reducible first | refine Ju.go ?_ | (refine Hd.go ?_; intro K Q hK hQ; simp only [List.getD_cons_succ, List.getD_cons_zero, nod_imm, Try.underlying3, e_leq, e_cond, decide_eq_true_eq]; subst hK hQ) | refine Jr.go ?_) | refine sd ?_)
    by_cases hjl : (j : Int) ≤ lv
    · have fin : ∀ X : List V, X = nxC S s (j + 1) → ∃ q : Nat × Hp, (1 ≤ q.1 ∧ (q.1 : Int) ≤ lv + 1 ∧ q.2[H.length]? = some (.cells [I 0, I 0, I 0, I 0, I 0, I 0, I 0]) ∧ q.2[H.length + 1]? = some (.cells ((decL S s lv).map I)) ∧ q.2[G2.length]? = some (.cells (nxC S s q.1)) ∧ (∀ c, c < H.length → q.2[c]? = H[c]?) ∧ H.length ≤ q.2.length) ∧ [V.ptr bs 0, I lv, .cptr (sttV s), .ptr H.length 0, .sl (H.length + 1) 0 S.rs.length S.rs.length 1, .ptr G2.length 0, I q.1] = [V.ptr bs 0, I lv, .cptr (sttV s), .ptr H.length 0, .sl (H.length + 1) 0 S.rs.length S.rs.length 1, .ptr G2.length 0, I ((j : Int) + 1)] ∧ q.2 = K.set G2.length (.cells X) ∧ (lv + 1).toNat - q.1 < (lv + 1).toNat - j := fun X hX => by
        refine ⟨(j + 1, _), ⟨by show 1 ≤ j + 1; omega, by show ((j + 1 : Nat) : Int) ≤ lv + 1; omega, ?_, ?_, ?_, fun c hc => ?_, ?_⟩, rfl, rfl, by show (lv + 1).toNat - (j + 1) < (lv + 1).toNat - j; omega⟩
        · show (List.set K _ _)[H.length]? = _
          rw [get_ne (by omega)]; exact kz
        · show (List.set K _ _)[H.length + 1]? = _
          rw [get_ne (by omega)]; exact kv
        · show (List.set K _ _)[G2.length]? = _
          rw [List.getElem?_set_self knl, hX]
        · show (List.set K _ _)[c]? = _
          rw [get_ne (by omega)]; exact klo c hc
        · show _ ≤ (List.set K _ _).length
          rw [List.length_set]; exact kln
      have hj12 : j = 1 ∨ j = 2 := by omega
      rcases hj12 with rfl | rfl
      · have r1 : R64 (s.b1 + 1) := by unfold R64; omega
        have c1 : ((1 : Nat) : Int) = 1 := rfl
        have hj1' : (1 : Int) ≤ lv := hjl
        rw [en1] at kn
        have kA1 : (K.set G2.length (.cells [I ((s.g : Int) + 1), I 0, I ((s.g : Int) + 1), I s.f2, I 0, I s.b1, I s.b2]))[bs]? = some (.cells (srC S bm)) := by rw [get_ne (by omega)]; exact kA
        have kn1 : (K.set G2.length (.cells [I ((s.g : Int) + 1), I 0, I ((s.g : Int) + 1), I s.f2, I 0, I s.b1, I s.b2]))[G2.length]? = some (.cells [I ((s.g : Int) + 1), I 0, I ((s.g : Int) + 1), I s.f2, I 0, I s.b1, I s.b2]) := List.getElem?_set_self knl
        cases h1 : S.l1
        · have e2 : nxC S s (1 + 1) = [I ((s.g : Int) + 1), I 0, I s.f1, I s.f2, I 0, I (min (s.b1 + 1) S.c1), I s.b2] := by unfold nxC; simp [h1]
          rw [e2] at fin
          repeat (first | (with_reducible first | refine Ju.go ?_ | (refine Hd.go ?_; intro K Q hK hQ; simp only [c1, hj1', if_true, List.getD_cons_zero, nod_ptr, e_ncP, e_fa, Nat.zero_add, List.getD_cons_succ, nod_imm, e_ixAP, Int.cast_ofNat_Int, t1, Nat.mul_one, Nat.reduceAdd, ld_at kA, lv_cons, h1, List.length_nil, Nat.reduceLeDiff, true_and, e_cond, Bool.false_eq_true, if_false, nod_cptr, e_facA, dr_s, dr_0, tk_s, tk_0, ixA3 (.inl rfl) (fun _ _ => trivial), e_ldc, Try.underlying3, e_add, r1, e_min2, st_at kn, stV_imm, okE_I, cl_imm, spl_s, spl_0, spl_n]; subst hK hQ) | refine Jr.go ?_) | refine sd ?_)
          exact fin _ rfl
        · have e2 : nxC S s (1 + 1) = [I ((s.g : Int) + 1), I 0, I ((s.g : Int) + 1), I s.f2, I 0, I (min (s.b1 + 1) S.c1), I s.b2] := by unfold nxC; simp [h1]
          rw [e2] at fin
          repeat (first | (with_reducible first | refine Ju.go ?_ | (refine Hd.go ?_; intro K Q hK hQ; simp only [c1, hj1', if_true, List.getD_cons_zero, nod_ptr, e_ncP, e_fa, Nat.zero_add, List.getD_cons_succ, nod_imm, e_ixAP, Int.cast_ofNat_Int, t1, Nat.mul_one, Nat.reduceAdd, ld_at kA, lv_cons, h1, List.length_nil, Nat.reduceLeDiff, true_and, e_cond, nod_cptr, e_fac, e_ldc, Try.underlying3, e_add, rg, st_at kn, stV_imm, okE_I, cl_imm, spl_s, spl_0, spl_n, e_facA, dr_s, dr_0, tk_s, tk_0, ixA3 (.inl rfl) (fun _ _ => trivial), r1]; subst hK hQ) | refine Jr.go ?_) | refine sd ?_)
          repeat (first | (with_reducible first | refine Ju.go ?_ | (refine Hd.go ?_; intro K Q hK hQ; simp only [ld_at kA1, Nat.reduceAdd, lv_cons, h1, List.length_nil, Nat.zero_add, Nat.reduceLeDiff, List.getD_cons_succ, List.getD_cons_zero, nod_imm, true_and, e_min2, nod_ptr, e_fa, e_ixAP, Int.cast_ofNat_Int, t1, Nat.mul_one, st_at kn1, stV_imm, okE_I, cl_imm, spl_s, spl_0, spl_n, List.set_set, Try.underlying3, e_add]; subst hK hQ) | refine Jr.go ?_) | refine sd ?_)
          exact fin _ rfl
      · have r1 : R64 (s.b2 + 1) := by unfold R64; omega
        have c1 : ((2 : Nat) : Int) = 2 := rfl
        have hj1' : (2 : Int) ≤ lv := hjl
        obtain ⟨F, hF⟩ : ∃ F : Int, F = if S.l1 = true then (s.g : Int) + 1 else s.f1 := ⟨_, rfl⟩
        have en2 : nxC S s 2 = [I ((s.g : Int) + 1), I 0, I F, I s.f2, I 0, I (min (s.b1 + 1) S.c1), I s.b2] := by unfold nxC; rw [hF]; simp
        have en3 : nxC S s (2 + 1) = [I ((s.g : Int) + 1), I 0, I F, I (if S.l2 = true then (s.g : Int) + 1 else s.f2), I 0, I (min (s.b1 + 1) S.c1), I (min (s.b2 + 1) S.c2)] := by unfold nxC; rw [hF]; simp
        rw [en2] at kn
        rw [en3] at fin
        generalize min (s.b1 + 1) S.c1 = Bv at *
        have kA1 : (K.set G2.length (.cells [I ((s.g : Int) + 1), I 0, I F, I ((s.g : Int) + 1), I 0, I Bv, I s.b2]))[bs]? = some (.cells (srC S bm)) := by rw [get_ne (by omega)]; exact kA
        have kn1 : (K.set G2.length (.cells [I ((s.g : Int) + 1), I 0, I F, I ((s.g : Int) + 1), I 0, I Bv, I s.b2]))[G2.length]? = some (.cells [I ((s.g : Int) + 1), I 0, I F, I ((s.g : Int) + 1), I 0, I Bv, I s.b2]) := List.getElem?_set_self knl
        cases h1 : S.l2
        · rw [h1, if_neg (by decide)] at fin
          repeat (first | (with_reducible first | refine Ju.go ?_ | (refine Hd.go ?_; intro K Q hK hQ; simp only [c1, hj1', if_true, List.getD_cons_zero, nod_ptr, e_ncP, e_fa, Nat.zero_add, List.getD_cons_succ, nod_imm, e_ixAP, Int.cast_ofNat_Int, t2, Nat.mul_one, Nat.reduceAdd, ld_at kA, lv_cons, h1, List.length_nil, Nat.reduceLeDiff, true_and, e_cond, Bool.false_eq_true, if_false, nod_cptr, e_facA, dr_s, dr_0, tk_s, tk_0, ixA3 (.inr rfl) (fun _ _ => trivial), Int.reduceEq, e_ldc, Try.underlying3, e_add, r1, e_min2, st_at kn, stV_imm, okE_I, cl_imm, spl_s, spl_0, spl_n]; subst hK hQ) | refine Jr.go ?_) | refine sd ?_)
          exact fin _ rfl
        · rw [h1, if_pos rfl] at fin
          repeat (first | (with_reducible first | refine Ju.go ?_ | (refine Hd.go ?_; intro K Q hK hQ; simp only [c1, hj1', if_true, List.getD_cons_zero, nod_ptr, e_ncP, e_fa, Nat.zero_add, List.getD_cons_succ, nod_imm, e_ixAP, Int.cast_ofNat_Int, t2, Nat.mul_one, Nat.reduceAdd, ld_at kA, lv_cons, h1, List.length_nil, Nat.reduceLeDiff, true_and, e_cond, nod_cptr, e_fac, e_ldc, Try.underlying3, e_add, rg, st_at kn, stV_imm, okE_I, cl_imm, spl_s, spl_0, spl_n, e_facA, dr_s, dr_0, tk_s, tk_0, ixA3 (.inr rfl) (fun _ _ => trivial), Int.reduceEq, if_false, r1]; subst hK hQ) | refine Jr.go ?_) | refine sd ?_)
          repeat (first | (with_reducible first | refine Ju.go ?_ | (refine Hd.go ?_; intro K Q hK hQ; simp only [ld_at kA1, Nat.reduceAdd, lv_cons, h1, List.length_nil, Nat.zero_add, Nat.reduceLeDiff, List.getD_cons_succ, List.getD_cons_zero, nod_imm, true_and, e_min2, nod_ptr, e_fa, e_ixAP, Int.cast_ofNat_Int, t2, Nat.mul_one, st_at kn1, stV_imm, okE_I, cl_imm, spl_s, spl_0, spl_n, List.set_set, Try.underlying3, e_add]; subst hK hQ) | refine Jr.go ?_) | refine sd ?_)
          exact fin _ rfl
    · rw [nxC_end S s (show (j : Int) = lv + 1 by omega)] at kn
      repeat (first | (with_reducible first | refine Ju.go ?_ | (refine Hd.go ?_; intro K Q hK hQ; simp only [hjl, if_false, List.getD_cons_succ, List.getD_cons_zero, nod_ptr, ldA_at kn, Nat.zero_add, lv_cons, List.length_nil, Nat.reduceAdd, Nat.reduceLeDiff, dr_0, tk_s, tk_0, nod_agg, List.map_cons, nodL_imm, List.map_nil, true_and, st_at kz, stV_agg, okE_agg, all_c, ck_I, all_n, Bool.and_self, and_true, cl_agg, spl_0, spl_n]; subst hK hQ) | refine Jr.go ?_) | refine sd ?_)
      have kz2 : (K.set H.length (.cells [I ((nxt S s lv).g : Int), I 0, I (nxt S s lv).f1, I (nxt S s lv).f2, I 0, I (nxt S s lv).b1, I (nxt S s lv).b2]))[H.length]? = some (.cells [I ((nxt S s lv).g : Int), I 0, I (nxt S s lv).f1, I (nxt S s lv).f2, I 0, I (nxt S s lv).b1, I (nxt S s lv).b2]) := List.getElem?_set_self (get_lt kz)
      refine Eq.mpr (resA_at kz2) ⟨Nat.le_refl 7, ?_⟩
      refine ⟨H.length + 1, by omega, rfl, ?_, by rw [List.length_set]; exact kln, fun c hc => ?_⟩
      · rw [get_ne (by omega)]; exact kv
      · rw [get_ne (by omega)]; exact klo c hc
def chs (S : Sr) (c0 c1 c2 : List Int) : List Int × Int :=
 let r1 : List Int × Int := if lexL c1 c0 = true then (c1, 1) else (c0, 0)
 if lexL c2 r1.1 = true then (c2, 2) else r1
theorem chs_in (S : Sr) (c0 c1 c2 : List Int) : (chs S c0 c1 c2).1 = c0 ∨ (chs S c0 c1 c2).1 = c1 ∨ (chs S c0 c1 c2).1 = c2 := by
 unfold chs
 dsimp only
 split
 ·split
  ·exact .inr (.inr rfl)
  ·exact .inr (.inl rfl)
 ·split
  ·exact .inr (.inr rfl)
  ·exact .inl rfl
def bestP (S : Sr) : Nat → Stt → List Int × Int
 | 0, s => (S.rs.map (endT S s 2 s.g), 0)
 | k + 1, s => chs S (addL (decL S s 0) (bestP S k (nxt S s 0)).1) (addL (decL S s 1) (bestP S k (nxt S s 1)).1) (addL (decL S s 2) (bestP S k (nxt S s 2)).1)
def bst (S : Sr) (s : Stt) : List Int × Int := bestP S (S.ws.length - 1 - s.g) s
theorem decL_len (S : Sr) (s : Stt) (lv : Int) : (decL S s lv).length = S.rs.length := by unfold decL; rw [addL_len _ _ (by simp)]; simp
theorem decL_rng {S : Sr} (hS : S.Ok) (s : Stt) (lv : Int) {i : Nat} (hi : i < S.rs.length) : 0 ≤ (decL S s lv).getD i 0 ∧ (decL S s lv).getD i 0 ≤ 1201 := by
 unfold decL
 rw [addL_get (by simp) (by simp; exact hi)]
 have hm := getD_memA S.rs default hi
 have h1 : (S.rs.map fun r => if isP S s lv r = true then (1 : Int) else 0).getD i 0 = if isP S s lv (S.rs.getD i default) = true then 1 else 0 := by
  rw [List.getD_eq_getElem?_getD, List.getElem?_map, List.getElem?_eq_getElem hi, List.getD_eq_getElem?_getD, List.getElem?_eq_getElem hi]; rfl
 have h2 : (S.rs.map (endT S s lv s.g)).getD i 0 = endT S s lv s.g (S.rs.getD i default) := by
  rw [List.getD_eq_getElem?_getD, List.getElem?_map, List.getElem?_eq_getElem hi, List.getD_eq_getElem?_getD, List.getElem?_eq_getElem hi]; rfl
 have h3 := endT_rng hS s lv s.g hm
 rw [h1, h2]
 split <;> omega
theorem bestP_is (S : Sr) : ∀ (k : Nat) (s : Stt), (bestP S k s).1.length = S.rs.length
 | 0, s => by show (S.rs.map _).length = _; simp
 | k + 1, s => by
  have h : ∀ l, (addL (decL S s l) (bestP S k (nxt S s l)).1).length = S.rs.length := fun l => by rw [addL_len _ _ (by rw [decL_len, bestP_is S k]), decL_len]
  show (chs S _ _ _).1.length = _
  rcases chs_in S (addL (decL S s 0) (bestP S k (nxt S s 0)).1) (addL (decL S s 1) (bestP S k (nxt S s 1)).1) (addL (decL S s 2) (bestP S k (nxt S s 2)).1) with e | e | e <;> rw [e]
  ·exact h 0
  ·exact h 1
  ·exact h 2
theorem bestP_rng {S : Sr} (hS : S.Ok) : ∀ (k : Nat) (s : Stt) (i : Nat), i < S.rs.length → 0 ≤ (bestP S k s).1.getD i 0 ∧ (bestP S k s).1.getD i 0 ≤ (k + 1) * 1201
 | 0, s, i, hi => by
  have h2 : (S.rs.map (endT S s 2 s.g)).getD i 0 = endT S s 2 s.g (S.rs.getD i default) := by
   rw [List.getD_eq_getElem?_getD, List.getElem?_map, List.getElem?_eq_getElem hi, List.getD_eq_getElem?_getD, List.getElem?_eq_getElem hi]; rfl
  have h3 := endT_rng hS s 2 s.g (getD_memA S.rs default hi)
  show 0 ≤ (S.rs.map _).getD i 0 ∧ (S.rs.map _).getD i 0 ≤ _
  rw [h2]
  omega
 | k + 1, s, i, hi => by
  have h : ∀ l, 0 ≤ (addL (decL S s l) (bestP S k (nxt S s l)).1).getD i 0 ∧ (addL (decL S s l) (bestP S k (nxt S s l)).1).getD i 0 ≤ ((k + 1 : Nat) + 1) * 1201 := fun l => by
   rw [addL_get (by rw [decL_len, bestP_is]) (by rw [decL_len]; exact hi)]
   have h1 := decL_rng hS s l hi
   have h2 := bestP_rng hS k (nxt S s l) i hi
   omega
  show 0 ≤ (chs S _ _ _).1.getD i 0 ∧ (chs S _ _ _).1.getD i 0 ≤ _
  rcases chs_in S (addL (decL S s 0) (bestP S k (nxt S s 0)).1) (addL (decL S s 1) (bestP S k (nxt S s 1)).1) (addL (decL S s 2) (bestP S k (nxt S s 2)).1) with e | e | e <;> rw [e]
  ·exact h 0
  ·exact h 1
  ·exact h 2
structure En where
 s : Stt
 b : Nat
abbrev reV (S : Sr) (s : Stt) (b : Nat) : V := .agg [.sl b 0 S.rs.length S.rs.length 1, I (bst S s).2]
def enS (S : Sr) (e : En) : V × V := (sttV e.s, reV S e.s e.b)
theorem lv114 : lvT Try.prog 10000 114 = some [.int, .int, .int, .int, .int, .int, .int] := by kernel_rfl
theorem ag114 : agT Try.prog 114 = true := by kernel_rfl
theorem kEqT (s t : Stt) : kEq true [.int, .int, .int, .int, .int, .int, .int] (sttV s) (sttV t) = some (decide (s = t)) := by
 cases s; cases t
 simp [kEq, lfL, lfE, Bool.decide_and, Int.ofNat_inj]
theorem findE_en (S : Sr) (s : Stt) : ∀ (es : List En) (i : Nat), ∃ r, findE true [.int, .int, .int, .int, .int, .int, .int] (sttV s) (es.map (enS S)) i = some r ∧ ((∃ e q, e ∈ es ∧ e.s = s ∧ r = some (q, reV S s e.b)) ∨ ((∀ e, e ∈ es → e.s ≠ s) ∧ r = none))
 | [], i => ⟨none, rfl, .inr ⟨fun e he => (by cases he), rfl⟩⟩
 | e :: es, i => by
  have hf : findE true [.int, .int, .int, .int, .int, .int, .int] (sttV s) ((e :: es).map (enS S)) i = match kEq true [.int, .int, .int, .int, .int, .int, .int] (sttV s) (sttV e.s) with | some true => some (some (i, reV S e.s e.b)) | some false => findE true [.int, .int, .int, .int, .int, .int, .int] (sttV s) (es.map (enS S)) (i + 1) | none => none := rfl
  rw [hf, kEqT]
  by_cases h : s = e.s
  ·rw [decide_eq_true h]
   exact ⟨_, rfl, .inl ⟨e, i, by simp, h.symm, by rw [h]⟩⟩
  ·rw [decide_eq_false h]
   obtain ⟨r, h1, h2⟩ := findE_en S s es (i + 1)
   refine ⟨r, h1, h2.elim (fun ⟨e', q, a1, a2, a3⟩ => .inl ⟨e', q, by simp [a1], a2, a3⟩) (fun ⟨a1, a2⟩ => .inr ⟨fun e' he => ?_, a2⟩)⟩
   rcases List.mem_cons.1 he with rfl | he
   ·exact fun e => h e.symm
   ·exact a1 e' he
structure MAt (H : Hp) (S : Sr) (bm : Nat) (es : List En) : Prop where
 m : H[bm]? = some (.mp (es.map (enS S)))
 e : ∀ e, e ∈ es → e.b ≠ bm ∧ H[e.b]? = some (.cells ((bst S e.s).1.map I))
theorem lkp_hit {S : Sr} {bm : Nat} {es : List En} {H : Hp} {z u : V} {q : Nat} {K : V → Prop} {s : Stt} (h : MAt H S bm es) (hr : findE true [.int, .int, .int, .int, .int, .int, .int] (sttV s) (es.map (enS S)) 0 = some (some (q, u))) : aLkp Try.prog 114 z true (.map bm) (sttV s) H K = K (.tup [u, B true]) := by
 have hk : (kEq true [.int, .int, .int, .int, .int, .int, .int] (sttV s) (sttV s)).isSome = true := by rw [kEqT]; rfl
 unfold aLkp
 simp only [h.m]
 refine propext ⟨fun ⟨ls, r', g1, g2, _, g4⟩ => ?_, fun h' => ⟨_, some (q, u), lv114, by rw [ag114]; exact hr, by rw [ag114]; exact hk, h'⟩⟩
 obtain rfl := Option.some.inj (g1.symm.trans lv114)
 rw [ag114] at g2
 obtain rfl := Option.some.inj (g2.symm.trans hr)
 exact g4
theorem lkp_miss {S : Sr} {bm : Nat} {es : List En} {H : Hp} {z : V} {K : V → Prop} {s : Stt} (h : MAt H S bm es) (hr : findE true [.int, .int, .int, .int, .int, .int, .int] (sttV s) (es.map (enS S)) 0 = some none) : aLkp Try.prog 114 z true (.map bm) (sttV s) H K = K (.tup [z.nod, B false]) := by
 have hk : (kEq true [.int, .int, .int, .int, .int, .int, .int] (sttV s) (sttV s)).isSome = true := by rw [kEqT]; rfl
 unfold aLkp
 simp only [h.m]
 refine propext ⟨fun ⟨ls, r', g1, g2, _, g4⟩ => ?_, fun h' => ⟨_, none, lv114, by rw [ag114]; exact hr, by rw [ag114]; exact hk, h'⟩⟩
 obtain rfl := Option.some.inj (g1.symm.trans lv114)
 rw [ag114] at g2
 obtain rfl := Option.some.inj (g2.symm.trans hr)
 exact g4
theorem upd_miss {S : Sr} {bm : Nat} {es : List En} {H : Hp} {v : V} {K : V → Hp → Prop} {s : Stt} (h : MAt H S bm es) (hr : findE true [.int, .int, .int, .int, .int, .int, .int] (sttV s) (es.map (enS S)) 0 = some none) : aUpd Try.prog 114 (.map bm) (sttV s) v H K = K .junk (H.set bm (.mp (es.map (enS S) ++ [(sttV s, v)]))) := by
 have hk : (kEq true [.int, .int, .int, .int, .int, .int, .int] (sttV s) (sttV s)).isSome = true := by rw [kEqT]; rfl
 unfold aUpd
 simp only [h.m]
 refine propext ⟨fun ⟨ls, r', g1, g2, _, g4⟩ => ?_, fun h' => ⟨_, none, lv114, by rw [ag114]; exact hr, by rw [ag114]; exact hk, h'⟩⟩
 obtain rfl := Option.some.inj (g1.symm.trans lv114)
 rw [ag114] at g2
 obtain rfl := Option.some.inj (g2.symm.trans hr)
 exact g4
def P62 (S : Sr) (bs bm : Nat) (k : Nat) : Prop := ∀ (s : Stt) (es : List En) (H : Hp), s.Ok → s.g + k + 1 = S.ws.length → SAt H S bs bm → MAt H S bm es →
    RetE Try.prog 62 [.ptr bs 0, sttV s] H (fun v H' => ∃ b es', v = reV S s b ∧ b ≠ bm ∧ (H.length ≤ b ∨ ∃ e, e ∈ es ∧ e.b = b) ∧ H'[b]? = some (.cells ((bst S s).1.map I)) ∧ MAt H' S bm es' ∧ (∀ e, e ∈ es' → e ∈ es ∨ (s.g ≤ e.s.g ∧ H.length ≤ e.b)) ∧ H.length ≤ H'.length ∧ ∀ c, c < H.length → c ≠ bm → H'[c]? = H[c]?)
def chN (c0 c1 c2 : List Int) : Nat → List Int × Int
 | 0 => ([], 0)
 | 1 => (c0, 0)
 | 2 => if lexL c1 c0 = true then (c1, 1) else (c0, 0)
 | _ => if lexL c2 (if lexL c1 c0 = true then (c1, (1 : Int)) else (c0, 0)).1 = true then (c2, 2) else if lexL c1 c0 = true then (c1, 1) else (c0, 0)
def cN (c0 c1 c2 : List Int) : Nat → List Int
 | 0 => c0
 | 1 => c1
 | _ => c2
theorem chN_succ (c0 c1 c2 : List Int) {j : Nat} (h1 : 1 ≤ j) (h2 : j ≤ 2) : chN c0 c1 c2 (j + 1) = if lexL (cN c0 c1 c2 j) (chN c0 c1 c2 j).1 = true then (cN c0 c1 c2 j, (j : Int)) else chN c0 c1 c2 j := by
 have h : j = 1 ∨ j = 2 := by omega
 rcases h with rfl | rfl <;> rfl
theorem chN_end (S : Sr) (c0 c1 c2 : List Int) : chN c0 c1 c2 3 = chs S c0 c1 c2 := rfl
theorem bst_0 (S : Sr) (s : Stt) (h : s.g + 0 + 1 = S.ws.length) : bst S s = (S.rs.map (endT S s 2 s.g), 0) := by
 unfold bst
 rw [show S.ws.length - 1 - s.g = 0 by omega]; rfl
theorem bst_s (S : Sr) (s : Stt) {k : Nat} (h : s.g + (k + 1) + 1 = S.ws.length) : bst S s = chs S (addL (decL S s 0) (bst S (nxt S s 0)).1) (addL (decL S s 1) (bst S (nxt S s 1)).1) (addL (decL S s 2) (bst S (nxt S s 2)).1) := by
 have e : ∀ l, bst S (nxt S s l) = bestP S k (nxt S s l) := fun l => by
  unfold bst
  rw [show S.ws.length - 1 - (nxt S s l).g = k by show S.ws.length - 1 - (s.g + 1) = k; omega]
 rw [e, e, e]
 unfold bst
 rw [show S.ws.length - 1 - s.g = k + 1 by omega]; rfl
theorem bst_len (S : Sr) (s : Stt) : (bst S s).1.length = S.rs.length := bestP_is _ _ _
theorem MAt.ext {H H' : Hp} {S : Sr} {bm : Nat} {es : List En} (h : MAt H S bm es) (h1 : H'[bm]? = H[bm]?) (h2 : ∀ e, e ∈ es → H'[e.b]? = H[e.b]?) : MAt H' S bm es := ⟨by rw [h1]; exact h.m, fun e he => ⟨(h.e e he).1, by rw [h2 e he]; exact (h.e e he).2⟩⟩
theorem stR {b c n : Nat} {l : Int} {cs : List V} {H : Hp} {KH : V → Hp → Prop} (h : H[b]? = some (.cells cs)) (hl : cs.length = 2) : aSt 2 (.ptr b 0) (.agg [.sl c 0 n n 1, I l]) H KH = KH .junk (H.set b (.cells [.sl c 0 n n 1, I l])) := by
 rw [st_at h]
 have e1 : okE 2 (stV (.agg [.sl c 0 n n 1, I l])) = True := eq_true ⟨rfl, fun x hx => by
  simp only [stV, V.cl, List.map_cons, List.map_nil, List.mem_cons, List.not_mem_nil, or_false] at hx
  rcases hx with rfl | rfl <;> rfl⟩
 have e2 : spl cs 0 (stV (.agg [.sl c 0 n n 1, I l])).cl = [.sl c 0 n n 1, I l] := by
  match cs, hl with
  | [a, b], _ => rfl
 rw [e1, e2, hl]
 exact propext ⟨fun h => h.2.2, fun h => ⟨Nat.le_refl _, trivial, h⟩⟩
theorem c62step (S : Sr) (bs bm : Nat) (hS : S.Ok) (hne : bs ≠ bm) (k : Nat) (ih : ∀ k', k = k' + 1 → P62 S bs bm k') : P62 S bs bm k := by
  intro s es H hs hg hA hM
  have hrl := hS.rl
  have hwl := hS.wl
  have hbl := get_lt hA
  have hml := get_lt hM.m
  obtain ⟨r, hr, hrc⟩ := findE_en S s es 0
  have gA : ∀ x : List Blk, (H ++ x)[bs]? = some (.cells (srC S bm)) := fun x => get_app hA
  have gM : ∀ x : List Blk, MAt (H ++ x) S bm es := fun x => ⟨get_app hM.m, fun e he => ⟨(hM.e e he).1, get_app (hM.e e he).2⟩⟩
  refine mkE62 _ _ ?_
  simp only [vc62, real]
  repeat (first | (with_reducible first | refine Ju.go ?_ | (refine Hd.go ?_; intro K Q hK hQ; simp only [nod_agg, List.map_cons, nodL_imm, List.map_nil, e_bxI, okE_agg, lv_cons, List.length_nil, Nat.zero_add, Nat.reduceAdd, all_c, ck_I, all_n, Bool.and_self, and_true, true_and, e_bx, ck_arr, cl_agg]; subst hK hQ) | refine Jr.go ?_) | refine sd ?_)
  generalize hR : Rn _ = R
  rcases hrc with ⟨e, q, he, hes, rfl⟩ | ⟨hno, rfl⟩
  · have heb := hM.e e he
    have key : R [.ptr bs 0, .cptr (sttV s), .ptr H.length 0, .ptr (H.length + 1) 0, B true] (H ++ [.cells [.arr [] .full, I 0], .cells [.sl e.b 0 S.rs.length S.rs.length 1, I (bst S s).2]]) := by
      subst hR
      have t0 : (H ++ [Blk.cells [.arr [] .full, I 0], .cells [.sl e.b 0 S.rs.length S.rs.length 1, I (bst S s).2]])[H.length]? = some (.cells [.arr [] .full, I 0]) := tail0 _ _
      have t1 := tail1 H (Blk.cells [.arr [] .full, I 0]) (.cells [.sl e.b 0 S.rs.length S.rs.length 1, I (bst S s).2]) []
      have t2 : ((H ++ [Blk.cells [.arr [] .full, I 0], .cells [.sl e.b 0 S.rs.length S.rs.length 1, I (bst S s).2]]).set H.length (.cells [.sl e.b 0 S.rs.length S.rs.length 1, I (bst S s).2]))[H.length]? = some (.cells [.sl e.b 0 S.rs.length S.rs.length 1, I (bst S s).2]) := List.getElem?_set_self (get_lt t0)
      repeat (first | (with_reducible first | refine Ju.go ?_ | (refine Hd.go ?_; intro K Q hK hQ; simp only [List.getD_cons_succ, List.getD_cons_zero, nod_imm, e_cond, if_true, nod_ptr, ldA_at t1, Nat.zero_add, lv_cons, List.length_nil, Nat.reduceAdd, Nat.reduceLeDiff, dr_0, tk_s, tk_0, nod_agg, List.map_cons, nodL_sl, nodL_imm, List.map_nil, true_and, stR t0 rfl]; subst hK hQ) | refine Jr.go ?_) | refine sd ?_)
      refine Eq.mpr (resA_at t2) ⟨Nat.le_refl 2, ?_⟩
      have hlo : ∀ c, c < H.length → ((H ++ [Blk.cells [.arr [] .full, I 0], .cells [.sl e.b 0 S.rs.length S.rs.length 1, I (bst S s).2]]).set H.length (.cells [.sl e.b 0 S.rs.length S.rs.length 1, I (bst S s).2]))[c]? = H[c]? := fun c hc => by rw [get_ne (by omega), List.getElem?_append_left hc]
      refine ⟨e.b, es, rfl, heb.1, .inr ⟨e, he, rfl⟩, ?_, ?_, fun e he => .inl he, by rw [List.length_set, List.length_append]; omega, fun c hc _ => hlo c hc⟩
      · rw [hlo _ (get_lt heb.2), heb.2, hes]
      · exact hM.ext (hlo _ hml) fun e he => hlo _ (get_lt (hM.e e he).2)
    refine ⟨?_, ?_⟩
    · repeat (first | (with_reducible first | refine Ju.go ?_ | (refine Hd.go ?_; intro K Q hK hQ; simp only [nod_ptr, e_ncP, e_fa, Nat.zero_add, ld_at (gA _), Nat.reduceAdd, lv_cons, List.length_nil, Nat.reduceLeDiff, List.getD_cons_succ, List.getD_cons_zero, nod_map, true_and, nod_cptr, e_ldcA, e_bx, okE_agg, all_c, ck_arr, ck_I, all_n, Bool.and_self, and_true, hp_len, hp_len_cons, cl_agg, hp_assoc, hp_cons, hp_nil, nod_agg, List.map_cons, nodL_imm, List.map_nil, lkp_hit (gM _) hr, nod_tup, nod2_agg, nodL_sl, nod2_imm, e_x20, e_x21, e_sc1, stV_agg, ck_sl, spl_0, spl_n]; subst hK hQ) | refine Jr.go ?_) | refine sd ?_)
      exact key
    · repeat (first | (with_reducible first | refine Ju.go ?_ | (refine Hd.go ?_; intro K Q hK hQ; simp only [nod_ptr, e_ncP, e_fa, Nat.zero_add, ld_at (gA _), Nat.reduceAdd, lv_cons, List.length_nil, Nat.reduceLeDiff, List.getD_cons_succ, List.getD_cons_zero, nod_map, true_and, nod_cptr, e_ldcA, nod_agg, List.map_cons, nodL_imm, List.map_nil, lkp_hit (gM _) hr, nod_tup, nod2_agg, nodL_sl, nod2_imm, e_x20, e_x21, e_bx, okE_agg, all_c, ck_arr, ck_I, all_n, Bool.and_self, and_true, hp_len, hp_len_cons, cl_agg, hp_assoc, hp_cons, hp_nil, e_sc1, stV_agg, ck_sl, spl_0, spl_n]; subst hK hQ) | refine Jr.go ?_) | refine sd ?_)
      exact key
  · have key : R [.ptr bs 0, .cptr (sttV s), .ptr H.length 0, .ptr (H.length + 1) 0, B false] (H ++ [.cells [.arr [] .full, I 0], .cells [.arr [] .full, I 0]]) := by
      subst hR
      repeat (first | (with_reducible first | refine Ju.go ?_ | (refine Hd.go ?_; intro K Q hK hQ; simp only [List.getD_cons_succ, List.getD_cons_zero, nod_imm, e_cond, Bool.false_eq_true, if_false, e_bx, okE_agg, lv_cons, List.length_nil, Nat.zero_add, Nat.reduceAdd, all_c, ck_arr, ck_I, all_n, Bool.and_self, and_true, hp_len, hp_len_cons, cl_agg, hp_assoc, hp_cons, hp_nil, true_and]; subst hK hQ) | refine Jr.go ?_) | refine sd ?_)
      generalize hR17 : Rn _ = R17
      have fin17 : ∀ (G : Hp) (es' : List En) (bo : Nat), G[H.length]? = some (.cells [.arr [] .full, I 0]) → G[H.length + 2]? = some (.cells [.sl bo 0 S.rs.length S.rs.length 1, I (bst S s).2]) → G[bo]? = some (.cells ((bst S s).1.map I)) → bo ≠ bm → H.length + 2 < bo → MAt G S bm es' → (∀ e, e ∈ es' → e ∈ es ∨ (s.g + 1 ≤ e.s.g ∧ H.length ≤ e.b)) → H.length ≤ G.length → (∀ c, c < H.length → c ≠ bm → G[c]? = H[c]?) → R17 [.ptr bs 0, .cptr (sttV s), .ptr H.length 0, .ptr (H.length + 2) 0] G := by
        intro G es' bo gz go gb gbm gb2 gM' ges gln glo
        subst hR17
        have gA' : G[bs]? = some (.cells (srC S bm)) := by rw [glo bs hbl hne]; exact hA
        have hml' : H.length ≠ bm := by omega
        obtain ⟨r', hr', hrc'⟩ := findE_en S s es' 0
        have hr2 : r' = none := by
          rcases hrc' with ⟨e, q, he, hes, rfl⟩ | ⟨-, h⟩
          · exfalso
            rcases ges e he with h1 | ⟨h1, -⟩
            · exact hno e h1 hes
            · rw [hes] at h1; omega
          · exact h
        subst hr2
        have n2 : H.length + 2 ≠ bm := by omega
        have go2 : ∀ x, (G.set bm x)[H.length + 2]? = some (.cells [.sl bo 0 S.rs.length S.rs.length 1, I (bst S s).2]) := fun x => by rw [get_ne n2.symm]; exact go
        have gz2 : ∀ x, (G.set bm x)[H.length]? = some (.cells [.arr [] .full, I 0]) := fun x => by rw [get_ne hml'.symm]; exact gz
        have gr : ∀ x, ((G.set bm x).set H.length (.cells [.sl bo 0 S.rs.length S.rs.length 1, I (bst S s).2]))[H.length]? = some (.cells [.sl bo 0 S.rs.length S.rs.length 1, I (bst S s).2]) := fun x => List.getElem?_set_self (get_lt (gz2 x))
        repeat (first | (with_reducible first | refine Ju.go ?_ | (refine Hd.go ?_; intro K Q hK hQ; simp only [List.getD_cons_zero, nod_ptr, e_ncP, e_fa, Nat.zero_add, ld_at gA', Nat.reduceAdd, lv_cons, List.length_nil, Nat.reduceLeDiff, List.getD_cons_succ, nod_map, true_and, nod_cptr, e_ldcA, ldA_at go, dr_0, tk_s, tk_0, nod_agg, List.map_cons, nodL_sl, nodL_imm, List.map_nil, upd_miss gM' hr', ldA_at (go2 _), stR (gz2 _) rfl]; subst hK hQ) | refine Jr.go ?_) | refine sd ?_)
        refine Eq.mpr (resA_at (gr _)) ⟨Nat.le_refl 2, ?_⟩
        have gbml := get_lt gM'.m
        refine ⟨bo, es' ++ [⟨s, bo⟩], rfl, gbm, .inl (by omega), ?_, ⟨?_, fun e he => ?_⟩, fun e he => ?_, by rw [List.length_set, List.length_set]; exact gln, fun c hc hcm => ?_⟩
        · rw [get_ne (by omega), get_ne gbm.symm]; exact gb
        · rw [get_ne hml', List.getElem?_set_self gbml, List.map_append]; rfl
        · rcases List.mem_append.1 he with he | he
          · refine ⟨(gM'.e e he).1, ?_⟩
            have hx : H.length ≠ e.b := fun e2 => by
              have := (gM'.e e he).2
              rw [← e2, gz] at this
              have e3 := congrArg (fun o => match o with | some (Blk.cells (V.arr [] _ :: _)) => true | _ => false) this
              cases hl : (bst S e.s).1 with
              | nil => rw [hl] at this; cases this
              | cons a t => rw [hl] at this; cases this
            rw [get_ne hx, get_ne (gM'.e e he).1.symm]
            exact (gM'.e e he).2
          · simp only [List.mem_singleton] at he
            subst he
            refine ⟨gbm, ?_⟩
            show (List.set _ _ _)[bo]? = _
            rw [get_ne (by omega), get_ne gbm.symm]; exact gb
        · rcases List.mem_append.1 he with he | he
          · exact (ges e he).elim .inl fun h => .inr ⟨by omega, h.2⟩
          · simp only [List.mem_singleton] at he
            subst he
            exact .inr ⟨Nat.le_refl _, by show H.length ≤ bo; omega⟩
        · rw [get_ne (by omega), get_ne (Ne.symm hcm)]; exact glo c hc hcm
      generalize hc0 : addL (decL S s 0) (bst S (nxt S s 0)).1 = c0
      generalize hc1 : addL (decL S s 1) (bst S (nxt S s 1)).1 = c1
      generalize hc2 : addL (decL S s 2) (bst S (nxt S s 2)).1 = c2
      have lc0 : c0.length = S.rs.length := by rw [← hc0, addL_len _ _ (by rw [decL_len, bst_len]), decL_len]
      have lc1 : c1.length = S.rs.length := by rw [← hc1, addL_len _ _ (by rw [decL_len, bst_len]), decL_len]
      have lc2 : c2.length = S.rs.length := by rw [← hc2, addL_len _ _ (by rw [decL_len, bst_len]), decL_len]
      refine loop_of (fun q : Nat × Nat × List En × Hp => q.1 ≤ 3 ∧ (k = 0 → q.1 = 0) ∧ q.2.2.2[H.length]? = some (.cells [.arr [] .full, I 0]) ∧ q.2.2.2[H.length + 2]? = some (.cells [if q.1 = 0 then .arr [] .full else .sl q.2.1 0 S.rs.length S.rs.length 1, I (chN c0 c1 c2 q.1).2]) ∧ (q.1 ≠ 0 → q.2.2.2[q.2.1]? = some (.cells ((chN c0 c1 c2 q.1).1.map I)) ∧ q.2.1 ≠ bm ∧ H.length + 2 < q.2.1 ∧ (chN c0 c1 c2 q.1).1.length = S.rs.length) ∧ MAt q.2.2.2 S bm q.2.2.1 ∧ (∀ e, e ∈ q.2.2.1 → e ∈ es ∨ (s.g + 1 ≤ e.s.g ∧ H.length ≤ e.b)) ∧ (∀ e, e ∈ q.2.2.1 → e.b ≠ H.length ∧ e.b ≠ H.length + 2 ∧ e.b ≠ bs) ∧ ∀ c, c < H.length → c ≠ bm → q.2.2.2[c]? = H[c]?) (fun q => [.ptr bs 0, .cptr (sttV s), .ptr H.length 0, .ptr (H.length + 2) 0, I q.1]) (·.2.2.2) (fun q => 3 - q.1) (0, 0, es, _) ⟨Nat.zero_le 3, fun _ => rfl, tail0 _ _, tail2 _ _ _ _ _, fun h => absurd rfl h, gM _, fun e he => .inl he, fun e he => ?_, fun c hc _ => List.getElem?_append_left hc⟩ rfl rfl ?_
      · have h1 := get_lt (hM.e e he).2
        have h2 : e.b ≠ bs := fun e2 => by
          have := (hM.e e he).2
          rw [e2, hA] at this
          cases hl : (bst S e.s).1 with
          | nil => rw [hl] at this; cases this
          | cons a t => rw [hl] at this; cases this
        exact ⟨by omega, by omega, h2⟩
      rintro ⟨j, bo, es', G⟩ ⟨hj3, hk0, gz, go, gb, gMA, ges, geb, glo⟩
      simp only at hj3 hk0 gz go gb gMA ges geb glo ⊢
      have gA' : G[bs]? = some (.cells (srC S bm)) := by rw [glo bs hbl hne]; exact hA
      have gol := get_lt go
      repeat (first | (with_reducible first | refine Ju.go ?_ | (refine Hd.go ?_; intro K Q hK hQ; simp only [List.getD_cons_succ, List.getD_cons_zero, nod_imm, Try.underlying3, e_leq, e_cond, decide_eq_true_eq]; subst hK hQ) | refine Jr.go ?_) | refine sd ?_)
      by_cases hj : j ≤ 2
      · have dj : (j : Int) ≤ 2 := by omega
        have rl1 : R64 ((S.ws.length : Int) - 1) := by unfold R64; omega
        cases k with
        | zero =>
          obtain rfl := hk0 rfl
          have dg : (s.g : Int) = (S.ws.length : Int) - 1 := by omega
          have eb := bst_0 S s hg
          have dj0 : (0 : Int) ≤ 2 := by decide
          repeat (first | (with_reducible first | refine Ju.go ?_ | (refine Hd.go ?_; intro K Q hK hQ; simp only [Int.cast_ofNat_Int, dj0, if_true, List.getD_cons_succ, List.getD_cons_zero, nod_cptr, e_fac, Nat.zero_add, lv_cons, List.length_nil, Nat.reduceAdd, Nat.reduceLeDiff, true_and, e_ldc, nod_ptr, e_ncP, e_fa, Nat.add_zero]; subst hK hQ) | refine Jr.go ?_) | refine sd ?_)
          repeat (first | (with_reducible first | refine Ju.go ?_ | (refine Hd.go ?_; intro K Q hK hQ; simp only []; subst hK hQ) | refine Jr.go ?_) | refine sd ?_)
          repeat (first | (with_reducible first | refine Ju.go ?_ | (refine Hd.go ?_; intro K Q hK hQ; simp only [ld_at gA', Nat.zero_add, lv_cons, List.length_nil, Nat.reduceAdd, Nat.reduceLeDiff, List.getD_cons_zero, nod_arr, nd_no, true_and, e_lenA, List.length_map, nod_imm, Try.underlying3, e_sub, e_eql, Int.cast_ofNat_Int, List.getD_cons_succ, e_cond, decide_eq_true_eq]; subst hK hQ) | refine Jr.go ?_) | refine sd ?_)
          repeat (first | (with_reducible first | refine Ju.go ?_ | (refine Hd.go ?_; intro K Q hK hQ; simp only []; subst hK hQ) | refine Jr.go ?_) | refine sd ?_)
          rw [if_pos dg]
          have gAx : ∀ x : List Blk, (G ++ x)[bs]? = some (.cells (srC S bm)) := fun x => get_app gA'
          have hz : (List.replicate S.rs.length (0 : Int)).length = S.rs.length := by simp
          repeat (first | (with_reducible first | refine Ju.go ?_ | (refine Hd.go ?_; intro K Q hK hQ; simp only [List.getD_cons_zero, nod_ptr, e_ncP, e_fa, Nat.zero_add, ld_at gA', Nat.reduceAdd, lv_cons, List.length_nil, Nat.reduceLeDiff, List.getD_cons_succ, nod_arr, nd_no, true_and, e_lenA, List.length_map, nod_imm, e_mkI, Int.cast_ofNat_Int, Int.toNat_natCast, nod_cptr, e_ldcA, e_fac, e_ldc, nod_sl, nod_agg, List.map_cons, nodL_imm, List.map_nil]; subst hK hQ) | refine Jr.go ?_) | refine sd ?_)
          have c := c91 S bs bm G.length (List.replicate S.rs.length 0) s 2 s.g (G ++ [.cells ((List.replicate S.rs.length 0).map I)]) hS (gAx _) (tail0 _ _) hz (by have := get_lt gA'; omega) (fun i hi => by
            rw [hz] at hi
            rw [List.getD_eq_getElem?_getD, List.getElem?_replicate, if_pos hi]
            show (0 : Int) ≤ 0 ∧ (0 : Int) ≤ 1000000
            omega) hs.f1 hs.f2 (by omega)
          rw [hz, addL_zero _ _ (by simp)] at c
          refine callE_of c ?_
          clear c
          rintro v G1 ⟨g1, g2, g3⟩
          rw [List.length_append] at g2 g3
          simp only [List.length_singleton] at g2 g3
          have lo1 : ∀ c, c < G.length → G1[c]? = G[c]? := fun c hc => by rw [g3 c (by omega) (by omega), List.getElem?_append_left hc]
          have go1 := (lo1 _ gol).trans go
          have gm1 := get_lt gMA.m
          rw [if_pos rfl] at go1
          repeat (first | (with_reducible first | refine Ju.go ?_ | (refine Hd.go ?_; intro K Q hK hQ; simp only [List.getD_cons_zero, List.getD_cons_succ, nod_sl, e_bd1, okE_sl, Nat.zero_add, lv_cons, List.length_nil, Nat.reduceAdd, Nat.reduceLeDiff, cl_sl, spl_0, spl_n, okE_I, cl_imm, spl_s, e_bd0, true_and, nod_ptr, own0_sl, stR go1 rfl]; subst hK hQ) | refine Jr.go ?_) | refine sd ?_)
          have gn2 : H.length + 2 ≠ bm := by omega
          refine fin17 _ es' G.length ?_ ?_ ?_ (by omega) gol ?_ ges ?_ fun c hc hcm => ?_
          · rw [get_ne (by omega), lo1 _ (by omega)]; exact gz
          · rw [eb]; exact List.getElem?_set_self (get_lt go1)
          · rw [eb, get_ne (by omega)]; exact g1
          · exact gMA.ext (by rw [get_ne gn2, lo1 _ gm1]) fun e he => by rw [get_ne (geb e he).2.1.symm, lo1 _ (get_lt (gMA.e e he).2)]
          · rw [List.length_set]; omega
          · rw [get_ne (by omega), lo1 _ (by omega)]; exact glo c hc hcm
        | succ k =>
          have dg : ¬ (s.g : Int) = (S.ws.length : Int) - 1 := by omega
          repeat (first | (with_reducible first | refine Ju.go ?_ | (refine Hd.go ?_; intro K Q hK hQ; simp only [dj, if_true, List.getD_cons_succ, List.getD_cons_zero, nod_cptr, e_fac, Nat.zero_add, lv_cons, List.length_nil, Nat.reduceAdd, Nat.reduceLeDiff, true_and, e_ldc, nod_ptr, e_ncP, e_fa, Nat.add_zero, ld_at gA', nod_arr, nd_no, e_lenA, List.length_map, nod_imm, Try.underlying3, e_sub, rl1, e_eql, dg, decide_false, e_cond, Bool.false_eq_true, if_false, e_ldcA, nod_agg, List.map_cons, nodL_imm, List.map_nil]; subst hK hQ) | refine Jr.go ?_) | refine sd ?_)
          refine callE_of (c63 S bs bm s (j : Int) G hS hs gA' ⟨by omega, dj⟩ (by omega)) ?_
          rintro v G1 ⟨b1, hb1, rfl, g1, gl1, lo1⟩
          have gA1 : G1[bs]? = some (.cells (srC S bm)) := by rw [lo1 bs (get_lt gA')]; exact gA'
          have gb1 := get_lt g1
          have gm0 := get_lt gMA.m
          have gM1 : ∀ x : List Blk, MAt (G1 ++ x) S bm es' := fun x => gMA.ext (by rw [List.getElem?_append_left (by omega), lo1 _ gm0]) fun e he => by
            have := get_lt (gMA.e e he).2
            rw [List.getElem?_append_left (by omega), lo1 _ this]
          repeat (first | (with_reducible first | refine Ju.go ?_ | (refine Hd.go ?_; intro K Q hK hQ; simp only [nod_tup, List.map_cons, nod2_agg, nodL_imm, List.map_nil, e_x20, e_x21, e_bx, okE_agg, lv_cons, List.length_nil, Nat.zero_add, Nat.reduceAdd, all_c, ck_I, all_n, Bool.and_self, and_true, cl_agg, true_and, nod_ptr, e_sc0, Nat.reduceLeDiff, stV_agg, spl_0, spl_n, List.getD_cons_zero, List.getD_cons_succ, e_lA0, dr_0, tk_s, tk_0, nod_agg]; subst hK hQ) | refine Jr.go ?_) | refine sd ?_)
          have gl2 : ∀ x : Blk, (G1 ++ [x]).length = G1.length + 1 := fun x => by simp
          refine callE_of (ih k rfl (nxt S s (j : Int)) es' _ (nxt_ok hS hs _) (by show s.g + 1 + k + 1 = _; omega) (get_app gA1) (gM1 _)) ?_
          rintro v G3 ⟨b2, es3, rfl, hb2m, hb2, g2, gM3, ges3, gl3, lo3⟩
          rw [gl2] at hb2 ges3 gl3 lo3
          have hgb : ∀ e, e ∈ es' → e.b < G.length := fun e he => get_lt (gMA.e e he).2
          have b12 : b1 ≠ b2 := by
            rcases hb2 with h | ⟨e, he, h⟩
            · omega
            · have := hgb e he; omega
          have b1m : b1 ≠ bm := by omega
          have lo31 : ∀ c, c < G1.length → c ≠ bm → G3[c]? = G1[c]? := fun c hc hcm => by rw [lo3 c (by omega) hcm, List.getElem?_append_left hc]
          have g1' : G3[b1]? = some (.cells ((decL S s (j : Int)).map I)) := by rw [lo31 b1 gb1 b1m]; exact g1
          have gb3 := get_lt g1'
          have lv1 : (decL S s (j : Int)).length = S.rs.length := decL_len S s _
          have lw : (bst S (nxt S s (j : Int))).1.length = S.rs.length := bst_len S _
          have lvw : (decL S s (j : Int)).length = (bst S (nxt S s (j : Int))).1.length := by rw [lv1, lw]
          have ct : cutA 0 1 false [.sl b2 0 S.rs.length S.rs.length 1, I (bst S (nxt S s (j : Int))).2] = .sl b2 0 S.rs.length S.rs.length 1 := rfl
          repeat (first | (with_reducible first | refine Ju.go ?_ | (refine Hd.go ?_; intro K Q hK hQ; simp only [nod_agg, List.map_cons, nodL_sl, nodL_imm, List.map_nil]; subst hK hQ) | refine Jr.go ?_) | refine sd ?_)
          repeat (first | (with_reducible first | refine Ju.go ?_ | (refine Hd.go ?_; intro K Q hK hQ; simp only [ct, nod_sl, e_lenS]; subst hK hQ) | refine Jr.go ?_) | refine sd ?_)
          refine loop_of (fun i : Nat => i ≤ S.rs.length) (fun i => [.ptr bs 0, .cptr (sttV s), .ptr H.length 0, .ptr (H.length + 2) 0, I j, .sl b1 0 S.rs.length S.rs.length 1, .sl b2 0 S.rs.length S.rs.length 1, I S.rs.length, I i]) (fun i => G3.set b1 (.cells ((upd (decL S s (j : Int)) (bst S (nxt S s (j : Int))).1 i).map I))) (fun i => S.rs.length - i) 0 (Nat.zero_le _) rfl (by
            rw [upd_0]
            refine List.ext_getElem? fun c => ?_
            by_cases e : b1 = c
            · subst e; rw [List.getElem?_set_self gb3]; exact g1'.symm
            · exact get_ne e) ?_
          intro i hi
          have kb1 : (G3.set b1 (.cells ((upd (decL S s (j : Int)) (bst S (nxt S s (j : Int))).1 i).map I)))[b1]? = some (.cells ((upd (decL S s (j : Int)) (bst S (nxt S s (j : Int))).1 i).map I)) := List.getElem?_set_self gb3
          have kb2 : (G3.set b1 (.cells ((upd (decL S s (j : Int)) (bst S (nxt S s (j : Int))).1 i).map I)))[b2]? = some (.cells ((bst S (nxt S s (j : Int))).1.map I)) := by rw [get_ne b12]; exact g2
          repeat (first | (with_reducible first | refine Ju.go ?_ | (refine Hd.go ?_; intro K Q hK hQ; simp only [List.getD_cons_succ, List.getD_cons_zero, nod_imm, Try.underlying3, e_lss, e_cond, decide_eq_true_eq]; subst hK hQ) | refine Jr.go ?_) | refine sd ?_)
          by_cases hin : i < S.rs.length
          · have di : (i : Int) < S.rs.length := by omega
            have ug := upd_get _ _ lvw (i := i) (by omega)
            have us := upd_set _ _ lvw (i := i) (by omega)
            have ul := upd_len _ _ lvw i
            have iu : i < (upd (decL S s (j : Int)) (bst S (nxt S s (j : Int))).1 i).length := by omega
            have iw : i < (bst S (nxt S s (j : Int))).1.length := by omega
            have rg1 := decL_rng hS s (j : Int) hin
            have rg2 := bestP_rng hS (S.ws.length - 1 - (nxt S s (j : Int)).g) (nxt S s (j : Int)) i hin
            have rg3 : (((S.ws.length - 1 - (nxt S s (j : Int)).g : Nat) : Int) + 1) * 1201 ≤ 61 * 1201 := by omega
            have rr : R64 ((decL S s (j : Int)).getD i 0 + (bst S (nxt S s (j : Int))).1.getD i 0) := by
              show R64 (_ + (bestP S (S.ws.length - 1 - (nxt S s (j : Int)).g) (nxt S s (j : Int))).1.getD i 0)
              unfold R64; omega
            repeat (first | (with_reducible first | refine Ju.go ?_ | (refine Hd.go ?_; intro K Q hK hQ; simp only [di, if_true, List.getD_cons_succ, List.getD_cons_zero, nod_sl, nod_imm, e_ixS, Int.toNat_natCast, Nat.mul_one, Nat.zero_add, true_and, nod_ptr, ldI_at kb2, iw, ldI_at kb1, iu, ug, Try.underlying3, e_add, rr, stI_at kb1, us, List.set_set]; subst hK hQ) | refine Jr.go ?_) | refine sd ?_)
            exact ⟨i + 1, hin, rfl, rfl, by omega⟩
          · obtain rfl : i = S.rs.length := by omega
            have di : ¬ ((S.rs.length : Nat) : Int) < S.rs.length := by omega
            have ue := upd_end _ _ lvw
            rw [lv1] at ue
            rw [ue] at kb1 kb2 ⊢
            have hcj : addL (decL S s (j : Int)) (bst S (nxt S s (j : Int))).1 = cN c0 c1 c2 j := by
              have : j = 0 ∨ j = 1 ∨ j = 2 := by omega
              rcases this with rfl | rfl | rfl
              · exact hc0
              · exact hc1
              · exact hc2
            rw [hcj] at kb1 kb2 ⊢
            have lcj : (cN c0 c1 c2 j).length = S.rs.length := by rw [← hcj, addL_len _ _ lvw]; exact lv1
            generalize hG4 : G3.set b1 (.cells ((cN c0 c1 c2 j).map I)) = G4 at *
            have l4 : G4.length = G3.length := by rw [← hG4, List.length_set]
            have lo4 : ∀ c, c < G.length → c ≠ bm → G4[c]? = G[c]? := fun c hc hcm => by
              rw [← hG4, get_ne (by omega), lo31 c (by omega) hcm, lo1 c hc]
            have gz4 : G4[H.length]? = some (.cells [.arr [] .full, I 0]) := by rw [lo4 _ (by omega) (by omega)]; exact gz
            have go4 := (lo4 _ gol (by omega)).trans go
            have ges4 : ∀ e, e ∈ es3 → e ∈ es ∨ (s.g + 1 ≤ e.s.g ∧ H.length ≤ e.b) := fun e he => (ges3 e he).elim (ges e) fun h => .inr ⟨h.1, by omega⟩
            have hnb : ∀ e, e ∈ es3 → e.b ≠ b1 := fun e he => (ges3 e he).elim (fun h => by have := hgb e h; omega) fun h => by omega
            have gM4 : MAt G4 S bm es3 := gM3.ext (by rw [← hG4, get_ne b1m]) fun e he => by rw [← hG4, get_ne (hnb e he).symm]
            have geb4 : ∀ e, e ∈ es3 → e.b ≠ H.length ∧ e.b ≠ H.length + 2 ∧ e.b ≠ bs := fun e he => (ges3 e he).elim (geb e) fun h => ⟨by omega, by omega, by have := get_lt gA'; omega⟩
            have glo4 : ∀ c, c < H.length → c ≠ bm → G4[c]? = H[c]? := fun c hc hcm => by rw [lo4 c (by omega) hcm]; exact glo c hc hcm
            repeat (first | (with_reducible first | refine Ju.go ?_ | (refine Hd.go ?_; intro K Q hK hQ; simp only [di, if_false, List.getD_cons_zero, List.getD_cons_succ, nod_imm, Try.underlying3, e_eql, nod_ptr, nod_sl, e_fa, Nat.add_zero, e_gF]; subst hK hQ) | refine Jr.go ?_) | refine sd ?_)
            generalize hR72 : Rn _ = R72
            have fin72 : ∀ bo', G4[bo']? = some (.cells ((chN c0 c1 c2 (j + 1)).1.map I)) → bo' ≠ bm → H.length + 2 < bo' → (chN c0 c1 c2 (j + 1)).1.length = S.rs.length → ∀ X, X[H.length + 2]? = some (.cells [.sl bo' 0 S.rs.length S.rs.length 1, I (chN c0 c1 c2 (j + 1)).2]) → (∀ c, c ≠ H.length + 2 → X[c]? = G4[c]?) →
                ∃ q : Nat × Nat × List En × Hp, (q.1 ≤ 3 ∧ (k + 1 = 0 → q.1 = 0) ∧ q.2.2.2[H.length]? = some (.cells [.arr [] .full, I 0]) ∧ q.2.2.2[H.length + 2]? = some (.cells [if q.1 = 0 then .arr [] .full else .sl q.2.1 0 S.rs.length S.rs.length 1, I (chN c0 c1 c2 q.1).2]) ∧ (q.1 ≠ 0 → q.2.2.2[q.2.1]? = some (.cells ((chN c0 c1 c2 q.1).1.map I)) ∧ q.2.1 ≠ bm ∧ H.length + 2 < q.2.1 ∧ (chN c0 c1 c2 q.1).1.length = S.rs.length) ∧ MAt q.2.2.2 S bm q.2.2.1 ∧ (∀ e, e ∈ q.2.2.1 → e ∈ es ∨ (s.g + 1 ≤ e.s.g ∧ H.length ≤ e.b)) ∧ (∀ e, e ∈ q.2.2.1 → e.b ≠ H.length ∧ e.b ≠ H.length + 2 ∧ e.b ≠ bs) ∧ ∀ c, c < H.length → c ≠ bm → q.2.2.2[c]? = H[c]?) ∧ [V.ptr bs 0, .cptr (sttV s), .ptr H.length 0, .ptr (H.length + 2) 0, I q.1] = [V.ptr bs 0, .cptr (sttV s), .ptr H.length 0, .ptr (H.length + 2) 0, I ((j : Int) + 1)] ∧ q.2.2.2 = X ∧ 3 - q.1 < 3 - j := by
              intro bo' x1 x2 x3 x4 X y1 y2
              refine ⟨(j + 1, bo', es3, X), ⟨by show j + 1 ≤ 3; omega, fun h => by omega, ?_, ?_, fun _ => ⟨?_, x2, x3, x4⟩, ?_, ges4, geb4, fun c hc hcm => ?_⟩, rfl, rfl, by show 3 - (j + 1) < 3 - j; omega⟩
              · show X[H.length]? = _
                rw [y2 _ (by omega)]; exact gz4
              · show X[H.length + 2]? = some (Blk.cells [if j + 1 = 0 then _ else _, _])
                rw [if_neg (by omega)]; exact y1
              · show X[bo']? = _
                rw [y2 _ (by omega)]; exact x1
              · exact gM4.ext (y2 _ (by omega)) fun e he => y2 _ (geb4 e he).2.1
              · show X[c]? = _
                rw [y2 _ (by omega)]; exact glo4 c hc hcm
            have kt : chN c0 c1 c2 (j + 1) = (cN c0 c1 c2 j, (j : Int)) → R72 [.ptr bs 0, .cptr (sttV s), .ptr H.length 0, .ptr (H.length + 2) 0, I j, .sl b1 0 S.rs.length S.rs.length 1, B true] G4 := by
              intro ec
              rw [ec] at fin72
              subst hR72
              repeat (first | (with_reducible first | refine Ju.go ?_ | (refine Hd.go ?_; intro K Q hK hQ; simp only [List.getD_cons_succ, List.getD_cons_zero, nod_imm, e_cond, if_true, nod_sl, e_bd1, okE_sl, Nat.zero_add, lv_cons, List.length_nil, Nat.reduceAdd, Nat.reduceLeDiff, cl_sl, spl_0, spl_n, okE_I, cl_imm, spl_s, e_bd0, true_and, nod_ptr, own0_sl, stR go4 rfl, Try.underlying3, e_add]; subst hK hQ) | refine Jr.go ?_) | refine sd ?_)
              exact fin72 b1 kb1 b1m (by omega) lcj _ (List.getElem?_set_self (get_lt go4)) fun c hc => get_ne (Ne.symm hc)
            have kf : j ≠ 0 → chN c0 c1 c2 (j + 1) = chN c0 c1 c2 j → R72 [.ptr bs 0, .cptr (sttV s), .ptr H.length 0, .ptr (H.length + 2) 0, I j, .sl b1 0 S.rs.length S.rs.length 1, B false] G4 := by
              intro hj0 ec
              rw [ec] at fin72
              obtain ⟨o1, o2, o3, o4⟩ := gb hj0
              have o5 := get_lt o1
              rw [if_neg hj0] at go4
              subst hR72
              repeat (first | (with_reducible first | refine Ju.go ?_ | (refine Hd.go ?_; intro K Q hK hQ; simp only [List.getD_cons_succ, List.getD_cons_zero, nod_imm, e_cond, Bool.false_eq_true, if_false, Try.underlying3, e_add]; subst hK hQ) | refine Jr.go ?_) | refine sd ?_)
              exact fin72 bo (by rw [lo4 _ o5 o2]; exact o1) o2 o3 o4 _ go4 fun c hc => rfl
            by_cases hj0 : j = 0
            · have d0 : decide ((j : Int) = 0) = true := decide_eq_true (by omega)
              repeat (first | (with_reducible first | refine Ju.go ?_ | (refine Hd.go ?_; intro K Q hK hQ; simp only [d0, cond_true]; subst hK hQ) | refine Jr.go ?_) | refine sd ?_)
              exact kt (by subst hj0; rfl)
            · have d0 : decide ((j : Int) = 0) = false := decide_eq_false (by omega)
              obtain ⟨o1, o2, o3, o4⟩ := gb hj0
              have o5 := get_lt o1
              have go5 := go4
              rw [if_neg hj0] at go5
              have o6 : G4[bo]? = some (.cells ((chN c0 c1 c2 j).1.map I)) := by rw [lo4 _ o5 o2]; exact o1
              have c := c92 (cN c0 c1 c2 j) (chN c0 c1 c2 j).1 b1 bo G4 kb1 o6 (by omega) (by omega)
              rw [lcj, o4] at c
              repeat (first | (with_reducible first | refine Ju.go ?_ | (refine Hd.go ?_; intro K Q hK hQ; simp only [d0, cond_false, ld_at go5, Nat.zero_add, lv_cons, List.length_nil, Nat.reduceAdd, Nat.reduceLeDiff, List.getD_cons_zero, nod_sl, true_and]; subst hK hQ) | refine Jr.go ?_) | refine sd ?_)
              refine call_of c ?_
              have es := chN_succ c0 c1 c2 (j := j) (by omega) hj
              repeat (first | (with_reducible first | refine Ju.go ?_ | (refine Hd.go ?_; intro K Q hK hQ; simp only [nod_imm, e_lss, cmpL_lex]; subst hK hQ) | refine Jr.go ?_) | refine sd ?_)
              cases hlx : lexL (cN c0 c1 c2 j) (chN c0 c1 c2 j).1
              · rw [hlx] at es
                exact kf hj0 es
              · rw [hlx] at es
                exact kt es
      · obtain rfl : j = 3 := by omega
        have hk1 : k ≠ 0 := fun e => by have := hk0 e; omega
        obtain ⟨k', rfl⟩ : ∃ k', k = k' + 1 := ⟨k - 1, by omega⟩
        obtain ⟨g1, g2, g3, g4⟩ := gb (by omega)
        have eb := bst_s S s hg
        rw [hc0, hc1, hc2, ← chN_end] at eb
        rw [if_neg (by decide), ← eb] at go
        rw [← eb] at g1
        have d3 : ¬ ((3 : Nat) : Int) ≤ 2 := by decide
        repeat (first | (with_reducible first | refine Ju.go ?_ | (refine Hd.go ?_; intro K Q hK hQ; simp only [Int.cast_ofNat_Int]; subst hK hQ) | refine Jr.go ?_) | refine sd ?_)
        exact fin17 G es' bo gz go g1 g2 g3 gMA ges (by omega) glo
    refine ⟨?_, ?_⟩
    · repeat (first | (with_reducible first | refine Ju.go ?_ | (refine Hd.go ?_; intro K Q hK hQ; simp only [nod_ptr, e_ncP, e_fa, Nat.zero_add, ld_at (gA _), Nat.reduceAdd, lv_cons, List.length_nil, Nat.reduceLeDiff, List.getD_cons_succ, List.getD_cons_zero, nod_map, true_and, nod_cptr, e_ldcA, e_bx, okE_agg, all_c, ck_arr, ck_I, all_n, Bool.and_self, and_true, hp_len, hp_len_cons, cl_agg, hp_assoc, hp_cons, hp_nil, nod_agg, List.map_cons, nodL_imm, List.map_nil, lkp_miss (gM _) hr, nodL_arr, nd_full, nod_tup, nod2_agg, nod2_imm, e_x20, e_x21, e_sc1, stV_agg, spl_0, spl_n]; subst hK hQ) | refine Jr.go ?_) | refine sd ?_)
      exact key
    · repeat (first | (with_reducible first | refine Ju.go ?_ | (refine Hd.go ?_; intro K Q hK hQ; simp only [nod_ptr, e_ncP, e_fa, Nat.zero_add, ld_at (gA _), Nat.reduceAdd, lv_cons, List.length_nil, Nat.reduceLeDiff, List.getD_cons_succ, List.getD_cons_zero, nod_map, true_and, nod_cptr, e_ldcA, nod_agg, List.map_cons, nodL_imm, List.map_nil, lkp_miss (gM _) hr, nodL_arr, nd_full, nod_tup, nod2_agg, nod2_imm, e_x20, e_x21, e_bx, okE_agg, all_c, ck_arr, ck_I, all_n, Bool.and_self, and_true, hp_len, hp_len_cons, cl_agg, hp_assoc, hp_cons, hp_nil, e_sc1, stV_agg, spl_0, spl_n]; subst hK hQ) | refine Jr.go ?_) | refine sd ?_)
      exact key
theorem c62 (S : Sr) (bs bm : Nat) (hS : S.Ok) (hne : bs ≠ bm) : ∀ k, P62 S bs bm k
 | 0 => c62step S bs bm hS hne 0 fun k' h => by omega
 | k + 1 => c62step S bs bm hS hne (k + 1) fun k' h => by
  obtain rfl : k = k' := by omega
  exact c62 S bs bm hS hne k
def strP (d l s : List Int) (t : Int) : Option (List Int) := if t - l.sum < 0 ∨ (d.length = 0 ∧ 0 < t - l.sum) then none else some (stN d s (t - l.sum).toNat l)
def strV (d l s : List Int) (t : Int) : V := if (okPh d l s && inB t 0 60000) = true then (match strP d l s t with | some x => .tup [ints x .no, I 0] | none => .tup [ints [] .no, I 5]) else .tup [ints [] .no, I 2]
theorem strV_nd (d l s : List Int) (t : Int) : (strV d l s t).Nd := by
 unfold strV
 split
 ·split <;> rfl
 ·rfl
structure Ph (d l s : List Int) : Prop where
 n : d.length ≤ 200
 ll : l.length = d.length
 sl : s.length = d.length
 d0 : ∀ i, i < d.length → 0 ≤ d.getD i 0 ∧ d.getD i 0 ≤ 10000
 l0 : ∀ i, i < d.length → 0 ≤ l.getD i 0 ∧ l.getD i 0 ≤ 10000
 s0 : ∀ i, i < d.length → 1 ≤ s.getD i 0 ∧ s.getD i 0 ≤ 1000
theorem okPh_Ph {d l s : List Int} (h : okPh d l s = true) : Ph d l s := by
 unfold okPh at h
 simp only [Bool.and_eq_true, decide_eq_true_eq, List.all_eq_true] at h
 obtain ⟨⟨⟨⟨⟨h1, h2⟩, h3⟩, h4⟩, h5⟩, h6⟩ := h
 exact ⟨h1, h2, h3, fun i hi => inB_iff.1 (h4 _ (hMem d hi)), fun i hi => inB_iff.1 (h5 _ (hMem l (show i < l.length by omega))), fun i hi => inB_iff.1 (h6 _ (hMem s (show i < s.length by omega)))⟩
theorem sum_rng : ∀ (l : List Int) (a b : Int), (∀ x, x ∈ l → a ≤ x ∧ x ≤ b) → l.length * a ≤ l.sum ∧ l.sum ≤ l.length * b
 | [], a, b, _ => by simp
 | x :: l, a, b, h => by
  have h1 := sum_rng l a b fun y hy => h y (List.mem_cons_of_mem _ hy)
  have h2 := h x (by simp)
  simp only [List.sum_cons, List.length_cons]
  have e1 : ((l.length + 1 : Nat) : Int) * a = l.length * a + a := by rw [Int.natCast_add, Int.add_mul]; simp
  have e2 : ((l.length + 1 : Nat) : Int) * b = l.length * b + b := by rw [Int.natCast_add, Int.add_mul]; simp
  omega
theorem Ph.lm {d l s : List Int} (h : Ph d l s) : ∀ x, x ∈ l → 0 ≤ x ∧ x ≤ 10000 := fun x hx => by
 obtain ⟨i, hi, rfl⟩ := List.mem_iff_getElem.1 hx
 have := h.l0 i (by have := h.ll; omega)
 rw [List.getD_eq_getElem?_getD, List.getElem?_eq_getElem hi] at this
 exact this
theorem Ph.sum {d l s : List Int} (h : Ph d l s) (i : Nat) : 0 ≤ (l.take i).sum ∧ (l.take i).sum ≤ 2000000 := by
 have h1 := sum_rng (l.take i) 0 10000 fun x hx => h.lm x (mem_take hx)
 have h2 : (l.take i).length ≤ 200 := by rw [List.length_take]; have := h.ll; have := h.n; omega
 omega
theorem fz_blN {n b : Nat} {H : Hp} {x : List Int} (hb : x.length ≠ 0 → n ≤ b ∧ H[b]? = some (.cells (x.map I))) : Fz n H (blN b x).nod (ints x .no) := by
 unfold blN
 split
 ·rename_i h
  rw [List.length_eq_zero_iff.1 h]
  exact .keep _ (bel_ints _ _ _)
 ·rename_i h
  have := fz_bkS hb
  unfold blV at this
  rw [if_neg h] at this
  exact this
theorem blN_nod (b : Nat) (l : List Int) : (blN b l).nod = blN b l := by unfold blN; split <;> rfl
theorem c143 (b n : Nat) (hn : 0 < n) (H : Hp) (hb : b < H.length) : Ret Try.prog 143 [.sl b 0 n n 2] H (.ptr b 0) H := by
 have d : (0 : Int) < n := by omega
 refine mk143 _ rfl (Nat.le_refl _) (.inl rfl) ?_
 simp only [vc143, real]
 repeat (first | (with_reducible first | refine Ju.go ?_ | (refine Hd.go ?_; intro K Q hK hQ; simp only [nod_sl, e_ixS, d, Nat.zero_add, true_and]; subst hK hQ) | refine Jr.go ?_) | refine sd ?_)
 exact end1 (.keep _ (.ptr b 0 hb))
theorem c35 (d l s : List Int) (t : Int) (H : Hp) (hd : d.length ≤ 9223372036854775807) (hl : l.length ≤ 9223372036854775807) (hs : s.length ≤ 9223372036854775807) : Ret Try.prog 35 [ints d .no, ints l .no, ints s .no, I t] H (strV d l s t) H := by
 refine mk35 _ _ _ _ (strV_nd d l s t) (Nat.le_refl _) (.inl rfl) ?_
 simp only [vc35, real]
 repeat (first | (with_reducible first | refine Ju.go ?_ | (refine Hd.go ?_; intro K Q hK hQ; simp only [nod_ints, nd_no]; subst hK hQ) | refine Jr.go ?_) | refine sd ?_)
 refine call_of (c69 d l s _ hd hl hs) ?_
 repeat (first | (with_reducible first | refine Ju.go ?_ | (refine Hd.go ?_; intro K Q hK hQ; simp only [nod_imm, e_not, e_gF]; subst hK hQ) | refine Jr.go ?_) | refine sd ?_)
 refine jo_n (c55 _ _ _ _) ?_
 rw [← Bool.not_and]
 cases hok : (okPh d l s && inB t 0 60000)
 ·have e : strV d l s t = .tup [ints [] .no, I 2] := if_neg (by rw [hok]; decide)
  rw [e]
  repeat (first | (with_reducible first | refine Ju.go ?_ | (refine Hd.go ?_; intro K Q hK hQ; simp only [Bool.not_false, List.getD_cons_succ, List.getD_cons_zero, nod_imm, e_cond, if_true]; subst hK hQ) | refine Jr.go ?_) | refine sd ?_)
  exact end2 rfl rfl (.full [] (bel_ints _ [] .full)) (fzI _)
 ·have e : strV d l s t = (match strP d l s t with | some x => .tup [ints x .no, I 0] | none => .tup [ints [] .no, I 5]) := if_pos hok
  rw [e]
  rw [Bool.and_eq_true] at hok
  have hp := okPh_Ph hok.1
  have ht := inB_iff.1 hok.2
  have hn := hp.n
  have hll := hp.ll
  have hss := hp.sl
  clear e hd hl hs
  repeat (first | (with_reducible first | refine Ju.go ?_ | (refine Hd.go ?_; intro K Q hK hQ; simp only [Bool.not_true, List.getD_cons_succ, List.getD_cons_zero, nod_imm, e_cond, Bool.false_eq_true, if_false, nod_ints, nd_no]; subst hK hQ) | refine Jr.go ?_) | refine sd ?_)
  refine callE_of (c64 l H (by omega)) ?_
  rintro v H1 ⟨rfl, f1, f2, f3⟩
  have xn : (blN H.length l).nod = blN H.length l := by unfold blN; split <;> rfl
  repeat (first | (with_reducible first | refine Ju.go ?_ | (refine Hd.go ?_; intro K Q hK hQ; simp only [bs0, nod_arr, nd_full, e_bx, okE_arr, cl_arr, true_and, List.getD_cons_succ, List.getD_cons_zero, nod_ints, nd_no, e_len, nod_imm, nod_ptr]; subst hK hQ) | refine Jr.go ?_) | refine sd ?_)
  have Q0 : Qh (H1 ++ [Blk.cells [.arr [] .full]]) H1.length 0 [] := ⟨tail0 _ _, fun h => absurd rfl h⟩
  refine loop_of (fun q : Nat × Nat × Hp => q.1 ≤ d.length ∧ Qh q.2.2 H1.length q.2.1 (q0 d s l q.1) ∧ (q.1 ≠ 0 → H1.length < q.2.1) ∧ H1.length < q.2.2.length ∧ ∀ c, c < H1.length → q.2.2[c]? = H1[c]?) (fun q => [ints d .no, ints s .no, blN H.length l, I (t - (l.take q.1).sum), quV H1.length, ints l .no, I l.length, I q.1]) (·.2.2) (fun q => d.length - q.1) (0, 0, _) ⟨Nat.zero_le _, Q0, fun h => absurd rfl h, by simp, fun c hc => List.getElem?_append_left hc⟩ (by simp) rfl ?_
  rintro ⟨i, b, G⟩ ⟨hi, hQ, hb, hG, hlo⟩
  simp only at hi hQ hb hG hlo ⊢
  have q0l := (q0_is d s l i).2.2
  repeat (first | (with_reducible first | refine Ju.go ?_ | (refine Hd.go ?_; intro K Q hK hQ; simp only [List.getD_cons_succ, List.getD_cons_zero, nod_imm, Try.underlying3, e_lss, e_cond, decide_eq_true_eq]; subst hK hQ) | refine Jr.go ?_) | refine sd ?_)
  by_cases hlt : i < d.length
  ·have di : (i : Int) < l.length := by omega
   have dd : (i : Int) < d.length := by omega
   have ds : (i : Int) < s.length := by omega
   have h1 := hp.l0 i hlt
   have h2 := hp.d0 i hlt
   have h3 := hp.s0 i hlt
   have sm := hp.sum i
   have hts : (l.take (i + 1)).sum = (l.take i).sum + l.getD i 0 := by rw [take_snocA l 0 (by omega), List.sum_append]; simp
   have r1 : R64 (t - (l.take i).sum - l.getD i 0) := by unfold R64; omega
   repeat (first | (with_reducible first | refine Ju.go ?_ | (refine Hd.go ?_; intro K Q hK hQ; simp only [di, if_true, List.getD_cons_succ, List.getD_cons_zero, nod_ints, nd_no, nod_imm, e_ix, Int.toNat_natCast, true_and, nod_cptr, e_ldc, Try.underlying3, e_sub, r1, dd, ds]; subst hK hQ) | refine Jr.go ?_) | refine sd ?_)
   refine call_ofD (c71 _ _ _ _ (by omega) (by omega) (by omega)) ?_
   repeat (first | (with_reducible first | refine Ju.go ?_ | (refine Hd.go ?_; intro K Q hK hQ; simp only [nod_imm, List.getD_cons_succ, List.getD_cons_zero, e_bd1, okE_I, Nat.zero_add, lv_cons, List.length_nil, Nat.reduceAdd, Nat.reduceLeDiff, cl_imm, spl_0, spl_n, spl_s, e_bd0, true_and, nod_ifc, own0_imm, nod_agg, List.map_cons, nodL_imm, List.map_nil]; subst hK hQ) | refine Jr.go ?_) | refine sd ?_)
   refine callE_of (c70 (q0 d s l i) (elA d s l i) H1.length b hQ (by omega)) ?_
   rintro v G2 ⟨hQ2, g1, g2⟩
   rw [q0l] at hQ2
   have rr : t - (l.take (i + 1)).sum = t - (l.take i).sum - l.getD i 0 := by omega
   repeat (first | (with_reducible first | refine Ju.go ?_ | (refine Hd.go ?_; intro K Q hK hQ; simp only [List.getD_cons_succ, List.getD_cons_zero, nod_imm, Try.underlying3, e_add]; subst hK hQ) | refine Jr.go ?_) | refine sd ?_)
   exact ⟨(i + 1, G.length, G2), ⟨hlt, hQ2, fun _ => hG, by show H1.length < G2.length; omega, fun c hc => by rw [g2 c (by omega) (by omega) (fun e => by have := hb (by omega); omega)]; exact hlo c hc⟩, by rw [rr]; rfl, rfl, by show d.length - (i + 1) < d.length - i; omega⟩
  ·obtain rfl : i = d.length := by omega
   have di : ¬ ((d.length : Nat) : Int) < l.length := by omega
   have sm := hp.sum d.length
   have et : l.take d.length = l := List.take_of_length_le (by omega)
   rw [et] at sm ⊢
   repeat (first | (with_reducible first | refine Ju.go ?_ | (refine Hd.go ?_; intro K Q hK hQ; simp only [di, if_false, List.getD_cons_zero, List.getD_cons_succ, nod_imm, Try.underlying3, e_lss, nod_ifc, nod_nod, e_gtr, e_gT, true_and, e_gF]; subst hK hQ) | refine Jr.go ?_) | refine sd ?_)
   have low : ∀ c, c < H.length → G[c]? = H[c]? := fun c hc => by rw [hlo c (by omega), f2 c hc]
   have hln : H.length ≤ G.length := by omega
   have hIq := q0_Iq d s l
   generalize hR : Rn _ = R
   have key : R [ints d .no, ints s .no, blN H.length l, I (t - l.sum), quV H1.length, B (decide (t - l.sum < 0) || (decide (0 < t - l.sum) && decide (d.length = 0)))] G := by
    subst hR
    by_cases hc : t - l.sum < 0 ∨ (d.length = 0 ∧ 0 < t - l.sum)
    ·have e1 : strP d l s t = none := if_pos hc
     have e2 : (decide (t - l.sum < 0) || (decide (0 < t - l.sum) && decide (d.length = 0))) = true := by
      rw [Bool.or_eq_true, Bool.and_eq_true, decide_eq_true_eq, decide_eq_true_eq, decide_eq_true_eq]
      omega
     rw [e1, e2]
     repeat (first | (with_reducible first | refine Ju.go ?_ | (refine Hd.go ?_; intro K Q hK hQ; simp only [List.getD_cons_succ, List.getD_cons_zero, nod_imm, e_cond, if_true]; subst hK hQ) | refine Jr.go ?_) | refine sd ?_)
     exact end2T rfl rfl (.full [] (bel_ints _ [] .full)) (fzI _) (take_low low hln)
    ·have e1 : strP d l s t = some (stN d s (t - l.sum).toNat l) := if_neg hc
     have e2 : (decide (t - l.sum < 0) || (decide (0 < t - l.sum) && decide (d.length = 0))) = false := by
      rw [Bool.or_eq_false_iff, Bool.and_eq_false_iff, decide_eq_false_iff_not, decide_eq_false_iff_not, decide_eq_false_iff_not]
      omega
     rw [e1, e2]
     repeat (first | (with_reducible first | refine Ju.go ?_ | (refine Hd.go ?_; intro K Q hK hQ; simp only [List.getD_cons_succ, List.getD_cons_zero, nod_imm, e_cond, Bool.false_eq_true, if_false]; subst hK hQ) | refine Jr.go ?_) | refine sd ?_)
     obtain ⟨N, hN⟩ : ∃ N : Nat, t - l.sum = (N : Int) := ⟨(t - l.sum).toNat, by omega⟩
     have hN0 : N ≤ 60000 := by omega
     rw [hN]
     rw [hN] at hc
     show LoopA _ _ _
     have bx : d.length ≠ 0 → H.length < H1.length := fun e => get_lt (f3 (by omega))
     have hb0 : d.length ≠ 0 → H1.length < b := hb
     have hx0 : d.length ≠ 0 → G[H.length]? = some (.cells (l.map I)) := fun e => by rw [hlo _ (bx e)]; exact f3 (by omega)
     have eT : ((N : Nat) : Int).toNat = N := by omega
     rw [eT]
     refine loop_of (fun q : Nat × List Int × List El × Hp => q.1 ≤ N ∧ q.2.1.length = d.length ∧ stN d s N l = stN d s q.1 q.2.1 ∧ Iq d s q.2.1 q.2.2.1 ∧ (∀ i, i < d.length → 0 ≤ q.2.1.getD i 0 ∧ q.2.1.getD i 0 ≤ 10000 + ((N : Int) - q.1)) ∧ Qh q.2.2.2 H1.length b q.2.2.1 ∧ (d.length ≠ 0 → q.2.2.2[H.length]? = some (.cells (q.2.1.map I))) ∧ (∀ c, c < H.length → q.2.2.2[c]? = H[c]?) ∧ H.length ≤ q.2.2.2.length) (fun q => [ints d .no, ints s .no, blN H.length q.2.1, I q.1, quV H1.length]) (·.2.2.2) (fun q => q.1) (N, l, q0 d s l d.length, G) ⟨Nat.le_refl _, hll, rfl, hIq, fun i hi => by have := hp.l0 i hi; show 0 ≤ l.getD i 0 ∧ l.getD i 0 ≤ 10000 + ((N : Int) - N); omega, hQ, hx0, low, hln⟩ rfl rfl ?_
     clear hQ hlo low hln hG hIq hx0 hb G
     rintro ⟨k, x, q, G⟩ ⟨hk, hxl, hst, hIq, hxb, hQ, hx, low, hln⟩
     simp only at hk hxl hst hIq hxb hQ hx low hln ⊢
     repeat (first | (with_reducible first | refine Ju.go ?_ | (refine Hd.go ?_; intro K Q hK hQ; simp only [List.getD_cons_succ, List.getD_cons_zero, nod_imm, Try.underlying3, e_gtr, e_cond, decide_eq_true_eq]; subst hK hQ) | refine Jr.go ?_) | refine sd ?_)
     by_cases hk0 : 0 < k
     ·have dk : (0 : Int) < k := by omega
      have hn0 : 0 < d.length := by omega
      have hql := hIq.len
      have hq0 : q.length ≠ 0 := by omega
      have hE := hQ.e hq0
      have hX := hx (by omega)
      have hfi := hIq.first hn0
      obtain ⟨b1, -, -⟩ := bi_is d s x hn0
      have ei : (q.flatMap elC).getD 1 .junk = I ((bi d s x : Nat) : Int) := by
       have := el_i q (k := 0) (by omega)
       rw [hfi] at this
       exact this
      repeat (first | (with_reducible first | refine Ju.go ?_ | (refine Hd.go ?_; intro K Q hK hQ; simp only [dk, if_true, List.getD_cons_succ, List.getD_cons_zero, nod_ifc]; subst hK hQ) | refine Jr.go ?_) | refine sd ?_)
      have hbl : blN H.length x = .sl H.length 0 x.length x.length 1 := if_neg (by omega)
      have hbH := get_lt hE.1
      refine inv_q mtF (hQ.sl hq0) ?_
      refine call_of (c143 b q.length (by omega) _ hbH) ?_
      have e0 : 0 + 1 ≤ (q.flatMap elC).length := by rw [elL]; omega
      have e1 : 0 + 1 + 1 ≤ (q.flatMap elC).length := by rw [elL]; omega
      have hbn : H.length ≠ b := by have := bx (by omega); have := hb0 (by omega); omega
      have hxg := inc_get x (i := bi d s x) (by omega)
      have hset : x.set (bi d s x) (x.getD (bi d s x) 0 + 1) = inc x (bi d s x) := rfl
      have hX2 : (G.set H.length (.cells ((inc x (bi d s x)).map I)))[H.length]? = some (.cells ((inc x (bi d s x)).map I)) := List.getElem?_set_self (get_lt hX)
      have hE2 : (G.set H.length (.cells ((inc x (bi d s x)).map I)))[b]? = some (.cells (q.flatMap elC)) := by rw [get_ne hbn]; exact hE.1
      have g1 : (inc x (bi d s x)).getD (bi d s x) 0 = x.getD (bi d s x) 0 + 1 := by rw [hxg, if_pos rfl]
      have bd := hp.d0 _ b1
      have bs := hp.s0 _ b1
      have bxx := hxb _ b1
      have r1 : R64 (x.getD (bi d s x) 0 + 1) := by unfold R64; omega
      have b2 : bi d s x < x.length := by omega
      have b3 : bi d s x < (inc x (bi d s x)).length := by rw [inc_len]; omega
      have b4 : ((bi d s x : Nat) : Int) < x.length := by omega
      have b5 : ((bi d s x : Nat) : Int) < d.length := by omega
      have b6 : ((bi d s x : Nat) : Int) < s.length := by omega
      rw [hbl]
      repeat (first | (with_reducible first | refine Ju.go ?_ | (refine Hd.go ?_; intro K Q hK hQ; simp only [nod_ptr, e_ncP, e_fa, Nat.zero_add, ld_at hE.1, Nat.reduceAdd, e1, ei, nod_imm, true_and, List.getD_cons_succ, List.getD_cons_zero, nod_sl, e_ixS, b4, Int.toNat_natCast, Nat.mul_one, ldI_at hX, b2, Try.underlying3, e_add, r1, stI_at hX, hset, ldI_at hX2, b3, g1, nod_ints, nd_no, e_ix, b5, nod_cptr, e_ldc, b6]; subst hK hQ) | refine Jr.go ?_) | refine sd ?_)
      refine call_ofD (c71 _ _ _ _ (by omega) (by omega) (by omega)) ?_
      have p0 : spl (q.flatMap elC) 0 [I (cst (d.getD (bi d s x) 0) (s.getD (bi d s x) 0) (x.getD (bi d s x) 0 + 1))] = (q.set 0 ⟨cst (d.getD (bi d s x) 0) (s.getD (bi d s x) 0) (x.getD (bi d s x) 0 + 1), ((bi d s x : Nat) : Int)⟩).flatMap elC :=
       flat_set elC 2 el_len q default (i := 0) (k := 0) (by omega) (by decide) _ _ (by
        show [I _, I _] = List.set (elC (gt q 0)) 0 _
        rw [hfi]; rfl)
      have hst2 := hIq.step hn0 hxl
      rw [g1] at hst2
      have hQ1 : Qh (G.set H.length (.cells ((inc x (bi d s x)).map I))) H1.length b q := ⟨by rw [get_ne (by have := bx (by omega); omega)]; exact hQ.q, fun _ => ⟨hE2, hE.2⟩⟩
      have hQ2 := hQ1.put (m := q.set 0 ⟨cst (d.getD (bi d s x) 0) (s.getD (bi d s x) 0) (x.getD (bi d s x) 0 + 1), ((bi d s x : Nat) : Int)⟩) (by rw [List.length_set]) hq0
      repeat (first | (with_reducible first | refine Ju.go ?_ | (refine Hd.go ?_; intro K Q hK hQ; simp only [List.getD_cons_succ, List.getD_cons_zero, nod_ptr, e_ncP, e_fa, Nat.add_zero, st_at hE2, Nat.zero_add, e0, stV_imm, okE_I, cl_imm, p0, true_and, nod_ifc]; subst hK hQ) | refine Jr.go ?_) | refine sd ?_)
      refine callE_of (c72 _ H1.length b hQ2 (by rw [List.length_set]; omega) (by rw [List.length_set]; omega)) ?_
      rintro v G4 rfl
      rw [List.set_set, List.length_set]
      have hQ3 := hQ1.put (m := (dnP q.length (q.set 0 ⟨cst (d.getD (bi d s x) 0) (s.getD (bi d s x) 0) (x.getD (bi d s x) 0 + 1), ((bi d s x : Nat) : Int)⟩) 0).1) (by rw [dnP_len, List.length_set]) hq0
      have rk : R64 ((k : Int) - 1) := by unfold R64; omega
      have ek : ((k - 1 : Nat) : Int) = (k : Int) - 1 := by omega
      have hbl2 : blN H.length (inc x (bi d s x)) = .sl H.length 0 x.length x.length 1 := by rw [← inc_len x (bi d s x)]; exact if_neg (by rw [inc_len]; omega)
      repeat (first | (with_reducible first | refine Ju.go ?_ | (refine Hd.go ?_; intro K Q hK hQ; simp only [List.getD_cons_zero, List.getD_cons_succ, nod_imm, Try.underlying3, e_sub, rk, true_and]; subst hK hQ) | refine Jr.go ?_) | refine sd ?_)
      refine ⟨(k - 1, inc x (bi d s x), _, _), ⟨by show k - 1 ≤ N; omega, by show (inc x _).length = _; rw [inc_len]; exact hxl, ?_, hst2, fun i hi => ?_, hQ3, fun _ => ?_, fun c hc => ?_, ?_⟩, ?_, rfl, by show k - 1 < k; omega⟩
      ·show stN d s N l = stN d s (k - 1) (inc x (bi d s x))
       rw [hst]
       obtain ⟨j, rfl⟩ : ∃ j, k = j + 1 := ⟨k - 1, by omega⟩
       rfl
      ·show 0 ≤ (inc x (bi d s x)).getD i 0 ∧ (inc x (bi d s x)).getD i 0 ≤ 10000 + ((N : Int) - ((k - 1 : Nat) : Int))
       have := hxb i hi
       rw [hxg]
       split
       ·omega
       ·omega
      ·show (List.set _ b _)[H.length]? = _
       rw [get_ne hbn.symm]; exact hX2
      ·show (List.set _ b _)[c]? = _
       rw [get_ne (by have := bx (by omega); have := hb0 (by omega); omega), get_ne (by omega)]
       exact low c hc
      ·show H.length ≤ (List.set _ b _).length
       rw [List.length_set, List.length_set]; exact hln
      ·show [ints d .no, ints s .no, blN H.length (inc x (bi d s x)), I ((k - 1 : Nat) : Int), quV H1.length] = _
       rw [hbl2, ek]; rfl
     ·have dk : ¬ (0 : Int) < k := by omega
      repeat (first | (with_reducible first | refine Ju.go ?_ | (refine Hd.go ?_; intro K Q hK hQ; simp only [dk, if_false]; subst hK hQ) | refine Jr.go ?_) | refine sd ?_)
      obtain rfl : k = 0 := by omega
      rw [hst]
      exact end2T rfl rfl (by show Fz _ _ (blN H.length x).nod.nod (ints x .no); rw [blN_nod]; exact fz_blN fun e => ⟨Nat.le_refl _, hx (by omega)⟩) (fzI _) (take_low low hln)
   by_cases h1 : t - l.sum < 0
   ·have d1 : decide (t - l.sum < 0) = true := decide_eq_true h1
    rw [d1, Bool.true_or] at key
    repeat (first | (with_reducible first | refine Ju.go ?_ | (refine Hd.go ?_; intro K Q hK hQ; simp only [d1, cond_true]; subst hK hQ) | refine Jr.go ?_) | refine sd ?_)
    exact key
   ·have d1 : decide (t - l.sum < 0) = false := decide_eq_false h1
    rw [d1, Bool.false_or] at key
    by_cases h2 : 0 < t - l.sum
    ·have d2 : decide (0 < t - l.sum) = true := decide_eq_true h2
     rw [d2, Bool.true_and] at key
     repeat (first | (with_reducible first | refine Ju.go ?_ | (refine Hd.go ?_; intro K Q hK hQ; simp only [d1, cond_false, d2, cond_true]; subst hK hQ) | refine Jr.go ?_) | refine sd ?_)
     refine inv_q mtN hQ.q ?_
     rw [blV_nod]
     refine call_of (c139 _ _ _) ?_
     rw [q0l]
     have e3 : decide (((d.length : Nat) : Int) = 0) = decide (d.length = 0) := by rw [decide_eq_decide]; omega
     repeat (first | (with_reducible first | refine Ju.go ?_ | (refine Hd.go ?_; intro K Q hK hQ; simp only [nod_imm, e_eql, e3]; subst hK hQ) | refine Jr.go ?_) | refine sd ?_)
     exact key
    ·have d2 : decide (0 < t - l.sum) = false := decide_eq_false h2
     rw [d2, Bool.false_and] at key
     repeat (first | (with_reducible first | refine Ju.go ?_ | (refine Hd.go ?_; intro K Q hK hQ; simp only [d1, cond_false, d2]; subst hK hQ) | refine Jr.go ?_) | refine sd ?_)
     exact key
theorem Rel.sealedS {σ : Sg} {w : World} {fr : Go.Ab.Fr} {tmps : Array Value} {H : Hp} (h : St σ w fr tmps H) {k n s : Nat} {xs : List V} (hk : H[k]? = some (.cells (xs.flatMap V.cl))) (hs : 0 < s) (hx : ∀ x, x ∈ xs → x.cl.length = s ∧ x.Nd) (hn : n = xs.length) {x : Value} (hr : Rel σ w (.sl k 0 n n s) x) :
    Rel (σ.tipAt (σ.ρ k) (xs.flatMap V.cl).length) w (.arr xs .no) x := by
  obtain ⟨hle, -, -⟩ := h.seal hk
  cases hr with
  | sl _ _ _ _ rc _ a hbn hcap hrc ha =>
    obtain ⟨q, rfl, hq, -⟩ := ha
    by_cases hne : xs = []
    · subst hne
      simp only [List.length_nil] at hn
      subst hn
      exact .arr0 _ _ rc (fun h => by cases h) ⟨fun ad h => .inl (by cases h; rfl), fun h => by cases h⟩
    · have hpos : 0 < xs.length := List.length_pos_iff.2 hne
      have hqo := hq (by omega)
      subst q
      obtain ⟨ys, e, hw, hlen, hat⟩ := h.at hk
      refine .arr xs .no (σ.ρ k) 0 n rc s (fun j => ys.getD j undef) hne hn (by omega) (fun h => by cases h) hs hx (fun j c hj => ?_) (fun j c hj => ?_)
      · have h2 := hat.cell _ c hj
        rw [Nat.zero_add] at h2 ⊢
        exact ⟨by rw [σ.tipAt_self]; exact (List.getElem?_eq_some_iff.1 hj).1, h2⟩
      · exact (hat.rel _ c hj).mono hle
theorem RetE.turn {P : Program} {f : Nat} {args args1 : List V} {H H1 : Hp} {Q : V → Hp → Prop} (hr : RetE P f args1 H1 Q) (hnd : ∀ a, a ∈ args1 → a.Nd) (hl : args1.length = args.length)
    (h : ∀ (σ : Sg) (w : World) (ra : Array Value), args.length = ra.size → St σ w (argF args) ra H → (∀ a, a ∈ args → a.Nd) → ∃ σ1, St σ1 w (argF args1) ra H1 ∧ Tr σ w (Own σ w (argF args) ra H) σ1 w (Own σ1 w (argF args1) ra H1)) : RetE P f args H Q := by
  refine ⟨hr.1, fun σ w ra hlen hst hn => ?_⟩
  obtain ⟨σ1, s1, t1⟩ := h σ w ra hlen hst hn
  refine (hr.2 σ1 w ra (hl.trans hlen) s1 hnd).mono fun e w' he => ?_
  obtain ⟨v, H', hq, x, σ', e1, e2, e3⟩ := he
  exact ⟨v, H', hq, x, σ', e1, e2, t1.trans e3⟩
theorem RetE.sealA {P : Program} {f : Nat} {xs rest : List V} {k n s : Nat} {H : Hp} {Q : V → Hp → Prop} (hr : RetE P f (.arr xs .no :: rest) (H.set k .dead) Q)
    (hk : H[k]? = some (.cells (xs.flatMap V.cl))) (hs : 0 < s) (hx : ∀ x, x ∈ xs → x.cl.length = s ∧ x.Nd) (hn : n = xs.length) (hN : ∀ a, a ∈ (V.arr xs .no :: rest) → a.Nd) : RetE P f (.sl k 0 n n s :: rest) H Q := by
  refine RetE.turn hr hN rfl fun σ w ra hlen hst hnd => ?_
  obtain ⟨l1, s1, t1⟩ := hst.seal hk
  have no : ∀ i j x rb, ¬ OwnB (leafV (argF (V.arr xs .no :: rest) i) j) x rb := fun i j x rb hw => by
    have hd : (argF (V.arr xs .no :: rest) i).Nd := by
      unfold argF
      cases hi : (V.arr xs .no :: rest)[i]? with
      | none => rw [List.getD_eq_getElem?_getD, hi]; rfl
      | some a => rw [List.getD_eq_getElem?_getD, hi]; exact hN a (List.mem_of_getElem? hi)
    exact not_own_Nd hd hw
  obtain ⟨s3, o3⟩ := s1.reframe (argF (V.arr xs .no :: rest)) ra id (fun i => by
      cases i with
      | zero => exact Rel.sealedS hst hk hs hx hn (hst.frame 0)
      | succ i => exact (hst.frame (i + 1)).mono l1) (fun i j rb hw => (no i j _ rb hw).elim) (fun i i' j j' rb _ _ e => e)
  exact ⟨_, s3, t1.mono_own o3⟩
def srS (S : Sr) (r : Rk) : Sr :=
 if r.k = 1 ∨ r.k = 2 then (if r.l = 1 then { S with l1 := true } else { S with l2 := true })
 else if r.k = 6 then (if r.l = 1 then { S with c1 := max S.c1 r.b } else { S with c2 := max S.c2 r.b })
 else S
def srI (ws : List Wd) (rs : List Rk) (i : Nat) : Sr := (rs.take i).foldl srS ⟨ws, rs, false, false, 0, 0⟩
def srF (ws : List Wd) (rs : List Rk) : Sr := srI ws rs rs.length
theorem srI_succ (ws : List Wd) (rs : List Rk) {i : Nat} (h : i < rs.length) : srI ws rs (i + 1) = srS (srI ws rs i) (rs.getD i default) := by unfold srI; rw [take_snocA rs default h, List.foldl_append]; rfl
theorem srS_ok {S : Sr} {r : Rk} (hS : S.Ok) (hr : okRk r = true) : (srS S r).Ok ∧ (srS S r).ws = S.ws ∧ (srS S r).rs = S.rs := by
 have h := okRk_p hr
 have h1 := hS.c1
 have h2 := hS.c2
 unfold srS
 split
 ·split
  ·exact ⟨⟨hS.wl, hS.rl, hS.w, hS.r, hS.c1, hS.c2⟩, rfl, rfl⟩
  ·exact ⟨⟨hS.wl, hS.rl, hS.w, hS.r, hS.c1, hS.c2⟩, rfl, rfl⟩
 ·split
  ·split
   ·exact ⟨⟨hS.wl, hS.rl, hS.w, hS.r, by show 0 ≤ max _ _ ∧ max _ _ ≤ (400 : Int); omega, hS.c2⟩, rfl, rfl⟩
   ·exact ⟨⟨hS.wl, hS.rl, hS.w, hS.r, hS.c1, by show 0 ≤ max _ _ ∧ max _ _ ≤ (400 : Int); omega⟩, rfl, rfl⟩
  ·exact ⟨hS, rfl, rfl⟩
theorem srI_ok {ws : List Wd} {rs : List Rk} (hw : okWs ws = true) (hr : okRs rs = true) : ∀ i, i ≤ rs.length → (srI ws rs i).Ok ∧ (srI ws rs i).ws = ws ∧ (srI ws rs i).rs = rs
 | 0, _ => by
  unfold okWs at hw
  unfold okRs at hr
  rw [Bool.and_eq_true, decide_eq_true_eq, List.all_eq_true] at hw hr
  exact ⟨⟨hw.1, hr.1, hw.2, hr.2, ⟨Int.le_refl _, by show (0 : Int) ≤ 400; omega⟩, ⟨Int.le_refl _, by show (0 : Int) ≤ 400; omega⟩⟩, rfl, rfl⟩
 | i + 1, h => by
  obtain ⟨h1, h2, h3⟩ := srI_ok hw hr i (by omega)
  rw [srI_succ ws rs (by omega)]
  have hm : okRk (rs.getD i default) = true := by
   unfold okRs at hr
   rw [Bool.and_eq_true, List.all_eq_true] at hr
   exact hr.2 _ (getD_memA rs default (by omega))
  obtain ⟨g1, g2, g3⟩ := srS_ok h1 hm
  exact ⟨g1, g2.trans h2, g3.trans h3⟩
def s0 : Stt := ⟨0, 0, 0, 0, 0⟩
theorem s0_ok : s0.Ok := ⟨Nat.le_refl _, Nat.le_refl _, ⟨by decide, by decide⟩, ⟨by decide, by decide⟩⟩
def brk (S : Sr) : Nat → Stt → List Int
 | 0, _ => []
 | k + 1, s => (bst S s).2 :: brk S k (nxt S s (bst S s).2)
theorem brk_len (S : Sr) : ∀ (k : Nat) (s : Stt), (brk S k s).length = k
 | 0, _ => rfl
 | k + 1, s => by show (brk S k _).length + 1 = _; rw [brk_len S k]
theorem chs_lv (S : Sr) (c0 c1 c2 : List Int) : 0 ≤ (chs S c0 c1 c2).2 ∧ (chs S c0 c1 c2).2 ≤ 2 := by
 have h : (chs S c0 c1 c2).2 = 0 ∨ (chs S c0 c1 c2).2 = 1 ∨ (chs S c0 c1 c2).2 = 2 := by
  unfold chs
  dsimp only
  split
  ·split
   ·exact .inr (.inr rfl)
   ·exact .inr (.inl rfl)
  ·split
   ·exact .inr (.inr rfl)
   ·exact .inl rfl
 omega
theorem bst_lv (S : Sr) (s : Stt) : 0 ≤ (bst S s).2 ∧ (bst S s).2 ≤ 2 := by
 unfold bst
 cases S.ws.length - 1 - s.g with
 | zero => exact ⟨Int.le_refl _, by show (0 : Int) ≤ 2; decide⟩
 | succ k => exact chs_lv S _ _ _
theorem c26 (ws : List Wd) (rs : List Rk) (H : Hp) (hwl : ws.length ≤ 9223372036854775807) (hrl : rs.length ≤ 9223372036854775807) (hne : ws ≠ []) :
    Ret Try.prog 26 [.arr (ws.map wdV) .no, .arr (rs.map rkV) .no] H (if (okWs ws && okRs rs) = true then .tup [ints (brk (srF ws rs) (ws.length - 1) s0) .no, ints (bst (srF ws rs) s0).1 .no, I 0] else .tup [ints [] .no, ints [] .no, I 2]) H := by
  have hnd : (if (okWs ws && okRs rs) = true then V.tup [ints (brk (srF ws rs) (ws.length - 1) s0) .no, ints (bst (srF ws rs) s0).1 .no, I 0] else .tup [ints [] .no, ints [] .no, I 2]).Nd := by split <;> rfl
  refine mk26 _ _ hnd (Nat.le_refl _) (.inl rfl) ?_
  simp only [vc26, real]
  repeat (first | (with_reducible first | refine Ju.go ?_ | (refine Hd.go ?_; intro K Q hK hQ; simp only [nod_arr, nd_no]; subst hK hQ) | refine Jr.go ?_) | refine sd ?_)
  refine call_of (c59 ws _ hwl) ?_
  repeat (first | (with_reducible first | refine Ju.go ?_ | (refine Hd.go ?_; intro K Q hK hQ; simp only [nod_imm, e_not, nod_arr, nd_no, e_gF]; subst hK hQ) | refine Jr.go ?_) | refine sd ?_)
  refine jo_n (c60 rs _ hrl) ?_
  rw [← Bool.not_and]
  cases hok : (okWs ws && okRs rs)
  · repeat (first | (with_reducible first | refine Ju.go ?_ | (refine Hd.go ?_; intro K Q hK hQ; simp only [Bool.not_false, List.getD_cons_succ, List.getD_cons_zero, nod_imm, e_cond, if_true]; subst hK hQ) | refine Jr.go ?_) | refine sd ?_)
    exact end3 rfl rfl rfl (.full [] (bel_ints _ [] .full)) (.full [] (bel_ints _ [] .full)) (fzI _)
  · rw [if_pos rfl]
    rw [Bool.and_eq_true] at hok
    have hpos := List.length_pos_iff.2 hne
    have d0 : ¬ (ws.length : Int) = 0 := by omega
    have okM : okE 1 (.map H.length) = True := eq_true ⟨rfl, fun x hx => by simp only [V.cl, List.mem_singleton] at hx; subst hx; rfl⟩
    have clM : (V.map H.length).cl = [.map H.length] := rfl
    have spM : spl [V.imm (Value.map none)] 0 [.map H.length] = [.map H.length] := rfl
    have ndM : (V.map H.length).nodL = .map H.length := rfl
    have stM : okE 9 (.agg [.arr (ws.map wdV) .no, .arr (rs.map rkV) .no, B false, B false, B false, I 0, I 0, I 0, .map H.length]) = True := eq_true ⟨rfl, fun x hx => by
      simp only [V.cl, List.mem_cons, List.not_mem_nil, or_false] at hx
      rcases hx with rfl | rfl | rfl | rfl | rfl | rfl | rfl | rfl | rfl <;> rfl⟩
    repeat (first | (with_reducible first | refine Ju.go ?_ | (refine Hd.go ?_; intro K Q hK hQ; simp only [Bool.not_true, List.getD_cons_succ, List.getD_cons_zero, nod_imm, e_cond, Bool.false_eq_true, if_false, nod_arr, nd_no, e_lenA, List.length_map, Try.underlying3, e_eql, d0, decide_false, e_mkM, nod_map, e_bd1, okE_arr, Nat.zero_add, lv_cons, List.length_nil, Nat.reduceAdd, Nat.reduceLeDiff, cl_arr, spl_0, spl_n, spl_s, e_bd0, true_and]; subst hK hQ) | refine Jr.go ?_) | refine sd ?_)
    repeat (first | (with_reducible first | refine Ju.go ?_ | (refine Hd.go ?_; intro K Q hK hQ; simp only [okM, true_and, clM, spM, List.getD_cons_zero, nod_arr, nd_no, own0_arr, nod_agg, List.map_cons, nodL_arr, nodL_imm, ndM, List.map_nil, e_bx, stM, hp_len, hp_len_cons, List.length_nil, Nat.zero_add, cl_agg, hp_assoc, hp_cons, hp_nil, List.getD_cons_succ, e_lenA, List.length_map]; subst hK hQ) | refine Jr.go ?_) | refine sd ?_)
    refine loop_of (fun i : Nat => i ≤ rs.length) (fun i => [.arr (ws.map wdV) .no, .ptr (H.length + 1) 0, .arr (rs.map rkV) .no, I rs.length, I i]) (fun i => H ++ [.mp [], .cells (srC (srI ws rs i) H.length)]) (fun i => rs.length - i) 0 (Nat.zero_le _) rfl rfl ?_
    intro i hi
    obtain ⟨sok, sw, sr⟩ := srI_ok hok.1 hok.2 i hi
    repeat (first | (with_reducible first | refine Ju.go ?_ | (refine Hd.go ?_; intro K Q hK hQ; simp only [List.getD_cons_succ, List.getD_cons_zero, nod_imm, Try.underlying3, e_lss, e_cond, decide_eq_true_eq]; subst hK hQ) | refine Jr.go ?_) | refine sd ?_)
    by_cases hlt : i < rs.length
    · have d : (i : Int) < rs.length := by omega
      have hm : okRk (rs.getD i default) = true := by
        have := hok.2
        unfold okRs at this
        rw [Bool.and_eq_true, List.all_eq_true] at this
        exact this.2 _ (getD_memA rs default hlt)
      have hr := okRk_p hm
      have hs := srI_succ ws rs hlt
      generalize hSS : srI ws rs i = S at *
      repeat (first | (with_reducible first | refine Ju.go ?_ | (refine Hd.go ?_; intro K Q hK hQ; simp only [d, if_true, List.getD_cons_succ, List.getD_cons_zero, nod_arr, nd_no, nod_imm, ix_rk, Int.toNat_natCast, true_and, nod_cptr, e_ldcA, lv_cons, List.length_nil, Nat.zero_add, Nat.reduceAdd, nod_agg, List.map_cons, nodL_imm, List.map_nil, e_bxI, okE_agg, all_c, ck_I, all_n, Bool.and_self, and_true, e_fac, Nat.reduceLeDiff, e_ldc, e_eql, e_cond, decide_eq_true_eq]; subst hK hQ) | refine Jr.go ?_) | refine sd ?_)
      generalize rs.getD i default = r at *
      have kA : (H ++ [.mp [], .cells (srC S H.length)])[H.length + 1]? = some (.cells (srC S H.length)) := tail1 _ _ _ _
      have st1 : ∀ x : Blk, (H ++ [Blk.mp [], Blk.cells (srC S H.length)]).set (H.length + 1) x = H ++ [Blk.mp [], x] := fun x => by
        rw [List.set_append_right _ _ (by omega), Nat.add_sub_cancel_left]; rfl
      have t1 : Int.toNat 1 = 1 := rfl
      have t2 : Int.toNat 2 = 2 := rfl
      have go : ∀ X, X = srC (srS S r) H.length → ∃ j : Nat, j ≤ rs.length ∧ [V.arr (ws.map wdV) .no, .ptr (H.length + 1) 0, .arr (rs.map rkV) .no, I rs.length, I j] = [V.arr (ws.map wdV) .no, .ptr (H.length + 1) 0, .arr (rs.map rkV) .no, I rs.length, I ((i : Int) + 1)] ∧ H ++ [.mp [], .cells (srC (srI ws rs j) H.length)] = H ++ [.mp [], .cells X] ∧ rs.length - j < rs.length - i := fun X hX => ⟨i + 1, hlt, rfl, by rw [hs, hX], by omega⟩
      by_cases hk : r.k = 1 ∨ r.k = 2
      · generalize hR : Rn _ = R
        have key : R [.arr (ws.map wdV) .no, .ptr (H.length + 1) 0, .cptr (rkV r), .arr (rs.map rkV) .no, I rs.length, I i, I r.k, B true] (H ++ [.mp [], .cells (srC S H.length)]) := by
          subst hR
          rcases hr.2.1 with hl | hl
          · have e : srS S r = { S with l1 := true } := (if_pos hk).trans (if_pos hl)
            rw [e] at go
            repeat (first | (with_reducible first | refine Ju.go ?_ | (refine Hd.go ?_; intro K Q hK hQ; simp only [List.getD_cons_succ, List.getD_cons_zero, nod_imm, e_cond, if_true, nod_cptr, e_fac, Nat.reduceAdd, hl, lv_cons, List.length_nil, Nat.zero_add, Nat.reduceLeDiff, true_and, e_ldc, nod_ptr, e_ncP, e_fa, e_ixAP, Int.cast_ofNat_Int, t1, Nat.mul_one, st_at kA, stV_imm, okE_B, cl_imm, spl_s, spl_0, spl_n, st1, Try.underlying3, e_add]; subst hK hQ) | refine Jr.go ?_) | refine sd ?_)
            exact go _ rfl
          · have e : srS S r = { S with l2 := true } := (if_pos hk).trans (if_neg (by omega))
            rw [e] at go
            repeat (first | (with_reducible first | refine Ju.go ?_ | (refine Hd.go ?_; intro K Q hK hQ; simp only [List.getD_cons_succ, List.getD_cons_zero, nod_imm, e_cond, if_true, nod_cptr, e_fac, Nat.reduceAdd, hl, lv_cons, List.length_nil, Nat.zero_add, Nat.reduceLeDiff, true_and, e_ldc, nod_ptr, e_ncP, e_fa, e_ixAP, Int.cast_ofNat_Int, t2, Nat.mul_one, st_at kA, stV_imm, okE_B, cl_imm, spl_s, spl_0, spl_n, st1, Try.underlying3, e_add]; subst hK hQ) | refine Jr.go ?_) | refine sd ?_)
            exact go _ rfl
        by_cases h1 : r.k = 1
        · rw [if_pos h1]
          repeat (first | (with_reducible first | refine Ju.go ?_ | (refine Hd.go ?_; intro K Q hK hQ; simp only []; subst hK hQ) | refine Jr.go ?_) | refine sd ?_)
          have : decide (r.k = 1) = true := decide_eq_true h1
          rw [this]
          exact key
        · have h2 : r.k = 2 := by omega
          repeat (first | (with_reducible first | refine Ju.go ?_ | (refine Hd.go ?_; intro K Q hK hQ; simp only [h1, if_false, nod_imm, e_eql]; subst hK hQ) | refine Jr.go ?_) | refine sd ?_)
          have : decide (r.k = 2) = true := decide_eq_true h2
          rw [this]
          exact key
      · have n1 : ¬ r.k = 1 := fun h => hk (.inl h)
        have n2 : ¬ r.k = 2 := fun h => hk (.inr h)
        have f1 : decide (r.k = 2) = false := decide_eq_false n2
        repeat (first | (with_reducible first | refine Ju.go ?_ | (refine Hd.go ?_; intro K Q hK hQ; simp only [n1, if_false, nod_imm, e_eql, List.getD_cons_zero, List.getD_cons_succ, e_cond, decide_eq_true_eq]; subst hK hQ) | refine Jr.go ?_) | refine sd ?_)
        rw [f1]
        by_cases h6 : r.k = 6
        · rcases hr.2.1 with hl | hl
          · have e : srS S r = { S with c1 := max S.c1 r.b } := (if_neg hk).trans ((if_pos h6).trans (if_pos hl))
            rw [e] at go
            repeat (first | (with_reducible first | refine Ju.go ?_ | (refine Hd.go ?_; intro K Q hK hQ; simp only [n2, if_false, List.getD_cons_succ, List.getD_cons_zero, nod_imm, e_eql, e_cond, decide_eq_true_eq]; subst hK hQ) | refine Jr.go ?_) | refine sd ?_)
            rw [if_pos h6]
            repeat (first | (with_reducible first | refine Ju.go ?_ | (refine Hd.go ?_; intro K Q hK hQ; simp only [hl, List.getD_cons_succ, List.getD_cons_zero, nod_cptr, e_fac, Nat.reduceAdd, lv_cons, List.length_nil, Nat.zero_add, Nat.reduceLeDiff, true_and, e_ldc, nod_ptr, e_ncP, e_fa, nod_imm, e_ixAP, Int.cast_ofNat_Int, t1, Nat.mul_one, ld_at kA, e_max2, st_at kA, stV_imm, okE_I, cl_imm, spl_s, spl_0, spl_n, st1, Try.underlying3, e_add]; subst hK hQ) | refine Jr.go ?_) | refine sd ?_)
            exact go _ rfl
          · have e : srS S r = { S with c2 := max S.c2 r.b } := (if_neg hk).trans ((if_pos h6).trans (if_neg (by omega)))
            rw [e] at go
            repeat (first | (with_reducible first | refine Ju.go ?_ | (refine Hd.go ?_; intro K Q hK hQ; simp only [n2, if_false, List.getD_cons_succ, List.getD_cons_zero, nod_imm, e_eql, e_cond, decide_eq_true_eq]; subst hK hQ) | refine Jr.go ?_) | refine sd ?_)
            rw [if_pos h6]
            repeat (first | (with_reducible first | refine Ju.go ?_ | (refine Hd.go ?_; intro K Q hK hQ; simp only [hl, List.getD_cons_succ, List.getD_cons_zero, nod_cptr, e_fac, Nat.reduceAdd, lv_cons, List.length_nil, Nat.zero_add, Nat.reduceLeDiff, true_and, e_ldc, nod_ptr, e_ncP, e_fa, nod_imm, e_ixAP, Int.cast_ofNat_Int, t2, Nat.mul_one, ld_at kA, e_max2, st_at kA, stV_imm, okE_I, cl_imm, spl_s, spl_0, spl_n, st1, Try.underlying3, e_add]; subst hK hQ) | refine Jr.go ?_) | refine sd ?_)
            exact go _ rfl
        · have e : srS S r = S := (if_neg hk).trans (if_neg h6)
          rw [e] at go
          repeat (first | (with_reducible first | refine Ju.go ?_ | (refine Hd.go ?_; intro K Q hK hQ; simp only [n2, if_false, List.getD_cons_succ, List.getD_cons_zero, nod_imm, e_eql, h6, decide_false, e_cond, Bool.false_eq_true, Try.underlying3, e_add]; subst hK hQ) | refine Jr.go ?_) | refine sd ?_)
          exact go _ rfl
    · have d : ¬ (i : Int) < rs.length := by omega
      obtain rfl : i = rs.length := by omega
      repeat (first | (with_reducible first | refine Ju.go ?_ | (refine Hd.go ?_; intro K Q hK hQ; simp only [d, if_false, List.getD_cons_zero, List.getD_cons_succ, e_bx, okE_agg, lv_cons, List.length_nil, Nat.zero_add, Nat.reduceAdd, all_c, ck_I, all_n, Bool.and_self, and_true, hp_len, hp_len_cons, cl_agg, hp_assoc, hp_cons, hp_nil, true_and]; subst hK hQ) | refine Jr.go ?_) | refine sd ?_)
      clear hnd d0 okM clM spM ndM stM d hlt hi
      have eS : srI ws rs rs.length = srF ws rs := rfl
      rw [eS] at sok sw sr ⊢
      generalize srF ws rs = S at *
      have hwl60 := sok.wl
      have hrl20 := sok.rl
      rw [sw] at hwl60
      have a2 : ∀ (x y z : Blk), (H ++ [x, y, z])[H.length + 1]? = some y := fun x y z => tail1 _ _ _ _
      refine loop_of (fun q : List Int × Fl × Stt × List En × Hp => q.2.2.1.Ok ∧ q.2.2.1.g + 1 ≤ ws.length ∧ q.1 ++ brk S (ws.length - 1 - q.2.2.1.g) q.2.2.1 = brk S (ws.length - 1) s0 ∧ q.2.1.ap = true ∧ q.1.length = q.2.2.1.g ∧ q.2.2.2.2[H.length + 1]? = some (.cells (srC S H.length)) ∧ MAt q.2.2.2.2 S H.length q.2.2.2.1 ∧ q.2.2.2.2[H.length + 2]? = some (.cells [I (q.2.2.1.g : Int), I 0, I (q.2.2.1.f1 : Int), I (q.2.2.1.f2 : Int), I 0, I q.2.2.1.b1, I q.2.2.1.b2]) ∧ (∀ e, e ∈ q.2.2.2.1 → H.length + 2 < e.b) ∧ ∀ c, c < H.length → q.2.2.2.2[c]? = H[c]?) (fun q => [.arr (ws.map wdV) .no, .ptr (H.length + 1) 0, ints q.1 q.2.1, .ptr (H.length + 2) 0]) (·.2.2.2.2) (fun q => ws.length - q.2.2.1.g) ([], .full, s0, [], _) ⟨s0_ok, by show 0 + 1 ≤ _; omega, rfl, rfl, rfl, a2 _ _ _, ⟨by show (H ++ _)[H.length]? = _; exact tail0 _ _, fun e he => (by cases he)⟩, tail2 _ _ _ _ _, fun e he => (by cases he), fun c hc => List.getElem?_append_left hc⟩ rfl rfl ?_
      rintro ⟨out, f, s, es, G⟩ ⟨hs, hg, hbr, hf, hol, hA, hM, hB, heb, hlo⟩
      simp only at hs hg hbr hf hol hA hM hB heb hlo ⊢
      have hBl := get_lt hB
      have rw1 : R64 ((ws.length : Int) - 1) := by unfold R64; omega
      repeat (first | (with_reducible first | refine Ju.go ?_ | (refine Hd.go ?_; intro K Q hK hQ; simp only [List.getD_cons_succ, List.getD_cons_zero, nod_ptr, e_fa, Nat.add_zero, ld_at hB, Nat.zero_add, lv_cons, List.length_nil, Nat.reduceAdd, Nat.reduceLeDiff, nod_imm, true_and, nod_arr, nd_no, e_lenA, List.length_map, Try.underlying3, e_sub, e_lss, e_cond, decide_eq_true_eq]; subst hK hQ) | refine Jr.go ?_) | refine sd ?_)
      repeat (first | (with_reducible first | refine Ju.go ?_ | (refine Hd.go ?_; intro K Q hK hQ; simp only []; subst hK hQ) | refine Jr.go ?_) | refine sd ?_)
      by_cases hlt : s.g + 1 < ws.length
      · have dg : (s.g : Int) < (ws.length : Int) - 1 := by omega
        repeat (first | (with_reducible first | refine Ju.go ?_ | (refine Hd.go ?_; intro K Q hK hQ; simp only [dg, if_true, List.getD_cons_succ, List.getD_cons_zero, nod_ptr, ldA_at hB, Nat.zero_add, lv_cons, List.length_nil, Nat.reduceAdd, Nat.reduceLeDiff, dr_0, tk_s, tk_0, nod_agg, List.map_cons, nodL_imm, List.map_nil, true_and]; subst hK hQ) | refine Jr.go ?_) | refine sd ?_)
        refine callE_of (c62 S (H.length + 1) H.length sok (by omega) (ws.length - 1 - s.g) s es G hs (by rw [sw]; omega) hA hM) ?_
        rintro v G1 ⟨b, es1, rfl, hbm, hbb, g1, hM1, hes1, hl1, hlo1⟩
        have hlv := bst_lv S s
        have ct : cutA 1 1 false [.sl b 0 S.rs.length S.rs.length 1, I (bst S s).2] = I (bst S s).2 := rfl
        have hB1 : G1[H.length + 2]? = some (.cells [I (s.g : Int), I 0, I (s.f1 : Int), I (s.f2 : Int), I 0, I s.b1, I s.b2]) := by rw [hlo1 _ hBl (by omega)]; exact hB
        have hA1 : G1[H.length + 1]? = some (.cells (srC S H.length)) := by rw [hlo1 _ (by omega) (by omega)]; exact hA
        repeat (first | (with_reducible first | refine Ju.go ?_ | (refine Hd.go ?_; intro K Q hK hQ; simp only [nod_agg, List.map_cons, nodL_sl, nodL_imm, List.map_nil, nod_nod]; subst hK hQ) | refine Jr.go ?_) | refine sd ?_)
        repeat (first | (with_reducible first | refine Ju.go ?_ | (refine Hd.go ?_; intro K Q hK hQ; simp only [ct, nod_imm, bs1, List.getD_cons_succ, List.getD_cons_zero, nod_ints, nd_full, e_app, hf, true_and, nod_ptr]; subst hK hQ) | refine Jr.go ?_) | refine sd ?_)
        repeat (first | (with_reducible first | refine Ju.go ?_ | (refine Hd.go ?_; intro K Q hK hQ; simp only [ldA_at hB1, Nat.zero_add, lv_cons, List.length_nil, Nat.reduceAdd, Nat.reduceLeDiff, dr_0, tk_s, tk_0, nod_agg, List.map_cons, nodL_imm, List.map_nil, true_and, List.getD_cons_succ, List.getD_cons_zero, nod_ptr, nod_imm]; subst hK hQ) | refine Jr.go ?_) | refine sd ?_)
        refine callE_of (c63 S (H.length + 1) H.length s (bst S s).2 G1 sok hs hA1 hlv (by rw [sw]; omega)) ?_
        rintro v G2 ⟨b2, hb2, rfl, -, hl2, hlo2⟩
        have hB2 : G2[H.length + 2]? = some (.cells [I (s.g : Int), I 0, I (s.f1 : Int), I (s.f2 : Int), I 0, I s.b1, I s.b2]) := by rw [hlo2 _ (by omega)]; exact hB1
        have hm2 := get_lt hM1.m
        repeat (first | (with_reducible first | refine Ju.go ?_ | (refine Hd.go ?_; intro K Q hK hQ; simp only [nod_tup, List.map_cons, nod2_agg, nodL_imm, List.map_nil, e_x20, e_x21, List.getD_cons_succ, List.getD_cons_zero, nod_ptr, st_at hB2, Nat.zero_add, lv_cons, List.length_nil, Nat.reduceAdd, Nat.reduceLeDiff, stV_agg, okE_agg, all_c, ck_I, all_n, Bool.and_self, and_true, cl_agg, spl_0, spl_n, true_and]; subst hK hQ) | refine Jr.go ?_) | refine sd ?_)
        have hes2 : ∀ e, e ∈ es1 → H.length + 2 < e.b := fun e he => (hes1 e he).elim (heb e) fun h => by omega
        refine ⟨(out ++ [(bst S s).2], .own, nxt S s (bst S s).2, es1, _), ⟨nxt_ok sok hs _, by show s.g + 1 + 1 ≤ _; omega, ?_, rfl, by show (out ++ [_]).length = s.g + 1; rw [List.length_append, hol]; rfl, ?_, ?_, List.getElem?_set_self (get_lt hB2), hes2, fun c hc => ?_⟩, rfl, rfl, by show ws.length - (s.g + 1) < ws.length - s.g; omega⟩
        · show (out ++ [(bst S s).2]) ++ brk S (ws.length - 1 - (s.g + 1)) (nxt S s (bst S s).2) = _
          rw [← hbr, List.append_assoc]
          congr 1
          rw [show ws.length - 1 - s.g = (ws.length - 1 - (s.g + 1)) + 1 by omega]
          rfl
        · show (List.set G2 _ _)[H.length + 1]? = _
          rw [get_ne (by omega), hlo2 _ (by omega)]; exact hA1
        · exact hM1.ext (by rw [get_ne (by omega), hlo2 _ hm2]) fun e he => by rw [get_ne (by have := hes2 e he; omega), hlo2 _ (get_lt (hM1.e e he).2)]
        · show (List.set G2 _ _)[c]? = _
          rw [get_ne (by omega), hlo2 _ (by omega), hlo1 _ (by omega) (by omega)]; exact hlo c hc
      · have dg : ¬ (s.g : Int) < (ws.length : Int) - 1 := by omega
        have e0 : ws.length - 1 - s.g = 0 := by omega
        rw [e0] at hbr
        have ho : out = brk S (ws.length - 1) s0 := by rw [← hbr]; exact (List.append_nil _).symm
        repeat (first | (with_reducible first | refine Ju.go ?_ | (refine Hd.go ?_; intro K Q hK hQ; simp only [dg, if_false, e_bd0, List.getD_cons_succ, List.getD_cons_zero, nod_ptr, nod_agg, List.map_cons, nodL_imm, List.map_nil]; subst hK hQ) | refine Jr.go ?_) | refine sd ?_)
        have c := c62 S (H.length + 1) H.length sok (by omega) (ws.length - 1) s0 es G s0_ok (by rw [sw]; show 0 + _ + 1 = _; omega) hA hM
        refine callE_of c ?_
        rintro v G1 ⟨b, es1, rfl, hbm, hbb, g1, hM1, hes1, hl1, hlo1⟩
        have ct : cutA 0 1 false [.sl b 0 S.rs.length S.rs.length 1, I (bst S s0).2] = .sl b 0 S.rs.length S.rs.length 1 := rfl
        have hb2 : H.length + 2 < b := by
          rcases hbb with h | ⟨e, he, h⟩
          · omega
          · have := heb e he; omega
        have bl := bst_len S s0
        have gbl := get_lt g1
        repeat (first | (with_reducible first | refine Ju.go ?_ | (refine Hd.go ?_; intro K Q hK hQ; simp only [nod_agg, List.map_cons, nodL_sl, nodL_imm, List.map_nil]; subst hK hQ) | refine Jr.go ?_) | refine sd ?_)
        repeat (first | (with_reducible first | refine Ju.go ?_ | (refine Hd.go ?_; intro K Q hK hQ; simp only [ct, nod_sl]; subst hK hQ) | refine Jr.go ?_) | refine sd ?_)
        have c := RetE.sealA (rest := []) (k := b) (n := S.rs.length) (s := 1) (H := G1) (xs := (bst S s0).1.map I) (c64 (bst S s0).1 (G1.set b .dead) (by omega)) (by rw [flat_I]; exact g1) Nat.one_pos (fun x hx => by
          obtain ⟨y, -, rfl⟩ := List.mem_map.1 hx
          exact ⟨rfl, rfl⟩) (by rw [List.length_map]; exact bl.symm) (fun a ha => by
          simp only [List.mem_singleton] at ha; subst ha; rfl)
        refine callE_of c ?_
        rintro v G2 ⟨rfl, k1, k2, k3⟩
        rw [List.length_set] at k1 k2 k3 ⊢
        have xn : (blN G1.length (bst S s0).1).nod = blN G1.length (bst S s0).1 := blN_nod _ _
        repeat (first | (with_reducible first | refine Ju.go ?_ | (refine Hd.go ?_; intro K Q hK hQ; simp only []; subst hK hQ) | refine Jr.go ?_) | refine sd ?_)
        refine end3T rfl rfl rfl ?_ ?_ (fzI _) (take_low (fun c hc => ?_) (by omega))
        · rw [← ho]
          show Fz _ _ (ints out f).nod.nod _
          rw [nod_nod]
          exact end_anyN
        · rw [xn]
          have := fz_blN (n := H.length) (b := G1.length) (H := G2) (x := (bst S s0).1) fun e => ⟨by omega, k3 (by omega)⟩
          rw [xn] at this
          exact this
        · rw [k2 c (by omega), get_ne (by omega), hlo1 c (by omega) (by omega)]; exact hlo c hc
theorem c85 (a b : List Int) (H : Hp) (ha : a.length ≤ 1000000000000000) : Ret Try.prog 85 [ints a .no, ints b .no] H (B (decide (a = b))) H := by
 refine mk85 _ _ rfl (Nat.le_refl _) (.inl rfl) ?_
 simp only [vc85, real]
 repeat (first | (with_reducible first | refine Ju.go ?_ | (refine Hd.go ?_; intro K Q hK hQ; simp only [nod_ints, nd_no, e_len, nod_imm, Try.underlying3, e_neq, e_cond, Bool.not_eq_true', decide_eq_false_iff_not]; subst hK hQ) | refine Jr.go ?_) | refine sd ?_)
 by_cases hl : a.length = b.length
 ·have dl : (a.length : Int) = b.length := by omega
  repeat (first | (with_reducible first | refine Ju.go ?_ | (refine Hd.go ?_; intro K Q hK hQ; simp only [dl, not_true_eq_false, if_false, nod_ints, nd_no, e_len]; subst hK hQ) | refine Jr.go ?_) | refine sd ?_)
  refine loop_of (fun i : Nat => i ≤ a.length ∧ a.take i = b.take i) (fun i => [ints a .no, ints b .no, I b.length, I i]) (fun _ => H) (fun i => a.length - i) 0 ⟨Nat.zero_le _, rfl⟩ rfl rfl ?_
  intro i ⟨hi, hp⟩
  repeat (first | (with_reducible first | refine Ju.go ?_ | (refine Hd.go ?_; intro K Q hK hQ; simp only [List.getD_cons_succ, List.getD_cons_zero, nod_imm, Try.underlying3, e_lss, e_cond, decide_eq_true_eq]; subst hK hQ) | refine Jr.go ?_) | refine sd ?_)
  by_cases hlt : i < a.length
  ·have d : (i : Int) < b.length := by omega
   have d1 : (i : Int) < a.length := by omega
   have d2 : i < b.length := by omega
   by_cases he : a.getD i 0 = b.getD i 0
   ·repeat (first | (with_reducible first | refine Ju.go ?_ | (refine Hd.go ?_; intro K Q hK hQ; simp only [d, if_true, List.getD_cons_zero, nod_ints, nd_no, List.getD_cons_succ, nod_imm, e_ix, dl, Int.toNat_natCast, he, true_and, nod_cptr, e_ldc, Try.underlying3, e_neq, decide_true, Bool.not_true, e_cond, Bool.false_eq_true, if_false, e_add]; subst hK hQ) | refine Jr.go ?_) | refine sd ?_)
    exact ⟨i + 1, ⟨by omega, eq_take a b 0 hlt (by omega) hp he⟩, rfl, rfl, by omega⟩
   ·repeat (first | (with_reducible first | refine Ju.go ?_ | (refine Hd.go ?_; intro K Q hK hQ; simp only [d, if_true, List.getD_cons_zero, nod_ints, nd_no, List.getD_cons_succ, nod_imm, e_ix, dl, Int.toNat_natCast, true_and, nod_cptr, e_ldc, Try.underlying3, e_neq, he, decide_false, Bool.not_false, e_cond]; subst hK hQ) | refine Jr.go ?_) | refine sd ?_)
    rw [decide_eq_false (ne_at a b 0 he)]
    exact end1 (fzI _)
  ·have d : ¬ (i : Int) < b.length := by omega
   have d1 : ¬ (i : Int) < a.length := by omega
   repeat (first | (with_reducible first | refine Ju.go ?_ | (refine Hd.go ?_; intro K Q hK hQ; simp only [d, if_false]; subst hK hQ) | refine Jr.go ?_) | refine sd ?_)
   rw [List.take_of_length_le (by omega), List.take_of_length_le (by omega)] at hp
   rw [decide_eq_true hp]
   exact end1 (fzI _)
 ·have dl : ¬ (a.length : Int) = b.length := by omega
  repeat (first | (with_reducible first | refine Ju.go ?_ | (refine Hd.go ?_; intro K Q hK hQ; simp only [dl, not_false_eq_true, if_true]; subst hK hQ) | refine Jr.go ?_) | refine sd ?_)
  rw [decide_eq_false (fun h => hl (by rw [h]))]
  exact end1 (fzI _)
theorem c84 (o bt : List Int) (b n : Nat) (H : Hp) (hb : H[b]? = some (.cells [I n])) (hn : n ≤ bt.length) (ho : o.length ≤ 1000000000000000) (hl : bt.length ≤ 1000000000000000) : Ret Try.prog 84 [ints o .no, .cptr (ints bt .no), .ptr b 0] H (B (decide (o = bt.drop (bt.length - n)))) H := by
 have r : R64 ((bt.length : Int) - n) := by unfold R64; omega
 have d0 : 0 ≤ (bt.length : Int) - n := by omega
 have d1 : (bt.length : Int) - n ≤ bt.length := by omega
 have d2 : ((bt.length : Int) - n).toNat = bt.length - n := by omega
 refine mk84 _ _ _ rfl (Nat.le_refl _) (.inl rfl) ?_
 simp only [vc84, real]
 repeat (first | (with_reducible first | refine Ju.go ?_ | (refine Hd.go ?_; intro K Q hK hQ; simp only [nod_cptr, e_ldci, nod_ints, nd_no, e_len, nod_ptr, ld_at hb, Nat.zero_add, lv_cons, List.length_nil, Nat.reduceLeDiff, List.getD_cons_zero, nod_imm, true_and, Try.underlying3, e_sub, r, e_slcLo, d0, d1, d2]; subst hK hQ) | refine Jr.go ?_) | refine sd ?_)
 refine call_of (c85 _ _ _ ho) ?_
 repeat (first | (with_reducible first | refine Ju.go ?_ | (refine Hd.go ?_; intro K Q hK hQ; simp only []; subst hK hQ) | refine Jr.go ?_) | refine sd ?_)
 exact end1 (fzI _)
def onN (on : List (List Int)) (bt : List Int) : Nat → Nat
 | 0 => 0
 | n + 1 => if (on.any fun o => decide (o = bt.drop (bt.length - (n + 1)))) = true then n + 1 else onN on bt n
def ons (s : Sou) (bt : List Int) : Nat := onN s.on bt (min 4 bt.length)
theorem onN_le (on : List (List Int)) (bt : List Int) : ∀ n, onN on bt n ≤ n
 | 0 => Nat.le_refl _
 | n + 1 => by
  unfold onN
  split
  ·exact Nat.le_refl _
  ·have := onN_le on bt n; omega
theorem c52 (s : Sou) (bt : List Int) (H : Hp) (hon : s.on.length ≤ 1000000) (hol : ∀ o, o ∈ s.on → o.length ≤ 1000000) (hl : bt.length ≤ 1000000) : Ret Try.prog 52 [souV s, ints bt .no] H (I (ons s bt)) H := by
 refine mk52 _ _ rfl (Nat.le_refl _) (.inl rfl) ?_
 simp only [vc52, real]
 repeat (first | (with_reducible first | refine Ju.go ?_ | (refine Hd.go ?_; intro K Q hK hQ; simp only [nod_agg, List.map_cons, nodL_ints, nd_no, nodL_imm, nodL_arr, List.map_nil, e_bxI, okE_agg, lv_cons, List.length_nil, Nat.zero_add, Nat.reduceAdd, all_c, ck_ints, ck_I, ck_arr, all_n, Bool.and_self, and_true, true_and, nod_ints, okE_ints, nod_cptr, e_ldci, e_len, nod_imm, e_min2, e_bx, okE_I, cl_imm, nod_ptr, e_sc0, Nat.reduceLeDiff, stV_imm, spl_0, spl_n]; subst hK hQ) | refine Jr.go ?_) | refine sd ?_)
 have emin : min (4 : Int) bt.length = ((min 4 bt.length : Nat) : Int) := by omega
 rw [emin]
 refine loop_of (fun q : Nat × Nat × Hp => q.1 ≤ bt.length ∧ q.1 ≤ 4 ∧ ons s bt = onN s.on bt q.1 ∧ q.2.2[q.2.1]? = some (.cells [I q.1]) ∧ H.length ≤ q.2.2.length ∧ ∀ c, c < H.length → q.2.2[c]? = H[c]?) (fun q => [.cptr (souV s), .cptr (ints bt .no), .ptr q.2.1 0]) (·.2.2) (fun q => q.1) (min 4 bt.length, H.length, _) ⟨by show min 4 bt.length ≤ _; omega, by show min 4 bt.length ≤ _; omega, rfl, tail0 _ _, by show _ ≤ (H ++ _).length; simp, fun c hc => List.getElem?_append_left hc⟩ rfl rfl ?_
 rintro ⟨n, b, G⟩ ⟨hn, hn4, he, hb, hln, hlo⟩
 simp only at hn hn4 he hb hln hlo ⊢
 repeat (first | (with_reducible first | refine Ju.go ?_ | (refine Hd.go ?_; intro K Q hK hQ; simp only [List.getD_cons_succ, List.getD_cons_zero, nod_ptr, ld_at hb, Nat.zero_add, lv_cons, List.length_nil, Nat.reduceLeDiff, nod_imm, true_and, Try.underlying3, e_gtr, e_cond, decide_eq_true_eq]; subst hK hQ) | refine Jr.go ?_) | refine sd ?_)
 cases n with
 | zero =>
  have d : ¬ (0 : Int) < ((0 : Nat) : Int) := by decide
  repeat (first | (with_reducible first | refine Ju.go ?_ | (refine Hd.go ?_; intro K Q hK hQ; simp only [Int.cast_ofNat_Int]; subst hK hQ) | refine Jr.go ?_) | refine sd ?_)
  rw [he]
  exact end1T (fzI _) (take_low hlo hln)
 | succ n =>
  have d : (0 : Int) < ((n + 1 : Nat) : Int) := by omega
  repeat (first | (with_reducible first | refine Ju.go ?_ | (refine Hd.go ?_; intro K Q hK hQ; simp only [d, if_true, List.getD_cons_zero, nod_cptr, e_fac, Nat.reduceAdd, lv_cons, List.length_nil, Nat.zero_add, Nat.reduceLeDiff, List.getD_cons_succ, true_and, e_ldcV, nod_arr, nd_no, nod_ptr]; subst hK hQ) | refine Jr.go ?_) | refine sd ?_)
  refine call_of (c83 s.on 84 [.cptr (ints bt .no), .ptr b 0] (fun o => decide (o = bt.drop (bt.length - (n + 1)))) _ (by omega) fun o ho => c84 o bt b (n + 1) _ hb hn (by have := hol o ho; omega) (by omega)) ?_
  have eo : onN s.on bt (n + 1) = if (s.on.any fun o => decide (o = bt.drop (bt.length - (n + 1)))) = true then n + 1 else onN s.on bt n := rfl
  cases ha : (s.on.any fun o => decide (o = bt.drop (bt.length - (n + 1))))
  ·rw [ha] at eo
   have r : R64 (((n + 1 : Nat) : Int) - 1) := by unfold R64; omega
   repeat (first | (with_reducible first | refine Ju.go ?_ | (refine Hd.go ?_; intro K Q hK hQ; simp only [nod_imm, e_cond, Bool.false_eq_true, if_false, List.getD_cons_succ, List.getD_cons_zero, nod_ptr, ld_at hb, Nat.zero_add, lv_cons, List.length_nil, Nat.reduceLeDiff, true_and, e_bx, okE_I, cl_imm, e_sc0, stV_imm, spl_0, spl_n, e_lc0, Try.underlying3, e_sub, r]; subst hK hQ) | refine Jr.go ?_) | refine sd ?_)
   have en : ((n + 1 : Nat) : Int) - 1 = (n : Int) := by omega
   rw [en]
   exact ⟨(n, G.length, G ++ [.cells [I n]]), ⟨by show n ≤ _; omega, by show n ≤ 4; omega, by rw [he, eo]; rfl, tail0 _ _, by show _ ≤ (G ++ _).length; rw [List.length_append]; omega, fun c hc => by show (G ++ _)[c]? = _; rw [List.getElem?_append_left (by omega)]; exact hlo c hc⟩, rfl, rfl, by show n < n + 1; omega⟩
  ·rw [ha] at eo
   repeat (first | (with_reducible first | refine Ju.go ?_ | (refine Hd.go ?_; intro K Q hK hQ; simp only [nod_imm, e_cond, if_true, List.getD_cons_succ, List.getD_cons_zero, nod_ptr, ld_at hb, Nat.zero_add, lv_cons, List.length_nil, Nat.reduceLeDiff, true_and]; subst hK hQ) | refine Jr.go ?_) | refine sd ?_)
   rw [he, eo]
   exact end1T (fzI _) (take_low hlo hln)
structure Sy3 where
 f : Int
 n : Int
 t : Int
deriving Inhabited, DecidableEq
abbrev syV (x : Sy3) : V := .agg [I x.f, I x.n, I x.t]
abbrev syC (x : Sy3) : List V := [I x.f, I x.n, I x.t]
theorem flat_syV (l : List Sy3) : (l.map syV).flatMap V.cl = l.flatMap syC := by
 induction l with
 | nil => rfl
 | cons x l ih => rw [List.map_cons, List.flatMap_cons, List.flatMap_cons, ih]; rfl
theorem fz_bkY {n : Nat} {H : Hp} {b : Nat} {og : List Sy3} (hb : og.length ≠ 0 → n ≤ b ∧ H[b]? = some (.cells (og.flatMap syC))) : Fz n H (blV 3 b og.length) (.arr (og.map syV) .no) := by
 unfold blV; split
 ·rename_i h
  rw [List.length_eq_zero_iff.1 h]
  exact .full [] (.arr _ _ fun c hc => by cases hc)
 ·rename_i h
  obtain ⟨h1, h2⟩ := hb h
  refine .sl b 0 _ _ 3 3 (og.flatMap syC) (og.map syV) .no h1 h2 (by simp) (by decide) (fun x hx => ?_) (fun e => by cases e) (by rw [flat_lenF syC 3 (fun _ => rfl), Nat.zero_add]; exact Nat.le_refl _) (fun j c c' hc hc' => ?_)
  ·obtain ⟨y, -, rfl⟩ := List.mem_map.1 hx
   exact ⟨rfl, rfl⟩
  ·rw [flat_syV] at hc'
   rw [Nat.zero_add] at hc
   rw [hc] at hc'
   cases hc'
   obtain ⟨y, -, hy⟩ := List.mem_flatMap.1 (List.mem_of_getElem? hc)
   simp only [List.mem_cons, List.not_mem_nil, or_false] at hy
   rcases hy with rfl | rfl | rfl <;> exact .keep _ (.imm _)
def btw (ph : List Int) (a b : Nat) : List Int := (ph.take b).drop a
def addS (s : Sou) (ph : List Int) (i : Nat) (out : List Sy3) : List Sy3 :=
 if out.length = 0 then [⟨0, i, ph.length⟩]
 else
  let x := out.getD (out.length - 1) default
  let fr : Int := (i : Int) - ons s (btw ph (x.n + 1).toNat i)
  out.set (out.length - 1) ⟨x.f, x.n, fr⟩ ++ [⟨fr, i, ph.length⟩]
def sylN (s : Sou) (ph : List Int) : Nat → List Sy3
 | 0 => []
 | i + 1 => if nuc s (ph.getD i 0) = true then addS s ph i (sylN s ph i) else sylN s ph i
def sylP (s : Sou) (ph : List Int) : List Sy3 := if ph.length = 0 then [] else if (sylN s ph ph.length).length = 0 then [⟨0, -1, ph.length⟩] else sylN s ph ph.length
theorem addS_len (s : Sou) (ph : List Int) (i : Nat) (out : List Sy3) : (addS s ph i out).length = out.length + 1 := by
 unfold addS
 split
 ·rename_i h; rw [h]; rfl
 ·simp
theorem sylN_is (s : Sou) (ph : List Int) : ∀ i, (sylN s ph i).length ≤ i ∧ ∀ x, x ∈ sylN s ph i → 0 ≤ x.n ∧ x.n < i
 | 0 => ⟨Nat.le_refl _, fun x hx => by cases hx⟩
 | i + 1 => by
  obtain ⟨h1, h2⟩ := sylN_is s ph i
  unfold sylN
  split
  ·refine ⟨by rw [addS_len]; omega, fun x hx => ?_⟩
   unfold addS at hx
   split at hx
   ·simp only [List.mem_singleton] at hx
    subst hx
    show (0 : Int) ≤ i ∧ (i : Int) < ((i + 1 : Nat) : Int)
    omega
   ·rename_i h0
    dsimp only at hx
    rcases List.mem_append.1 hx with hx | hx
    ·have hm := getD_memA (sylN s ph i) default (i := (sylN s ph i).length - 1) (by omega)
     rcases List.mem_or_eq_of_mem_set hx with hx | rfl
     ·have := h2 x hx; omega
     ·have h3 := h2 _ hm
      show 0 ≤ ((sylN s ph i).getD ((sylN s ph i).length - 1) default).n ∧ ((sylN s ph i).getD ((sylN s ph i).length - 1) default).n < ((i + 1 : Nat) : Int)
      omega
    ·simp only [List.mem_singleton] at hx
     subst hx
     show (0 : Int) ≤ i ∧ (i : Int) < ((i + 1 : Nat) : Int)
     omega
  ·exact ⟨by omega, fun x hx => by have := h2 x hx; omega⟩
theorem bs_sy (x : Sy3) (z : V) (K : V → Prop) : aBS 3 1 z [(0, .agg [I x.f, I x.n, I x.t])] K = K (.arr [.agg [I x.f, I x.n, I x.t]] .full) := by
 have h : okE 3 (.agg [I x.f, I x.n, I x.t]) = True := eq_true ⟨rfl, fun c hc => by
  simp only [V.cl, List.mem_cons, List.not_mem_nil, or_false] at hc
  rcases hc with rfl | rfl | rfl <;> rfl⟩
 simp [aBS, aPs, setP, h]
theorem app_y {b n : Nat} {out : List Sy3} {x : Sy3} {H : Hp} {KH : V → Hp → Prop} (hn : n = out.length) (h : n ≠ 0 → H[b]? = some (.cells (out.flatMap syC))) (hb : n ≤ 1000)
    (k : ∀ G, (∀ c, c < H.length → (n ≠ 0 → b ≠ c) → G[c]? = H[c]?) → G[H.length]? = some (.cells ((out ++ [x]).flatMap syC)) → H.length ≤ G.length → KH (blV 3 H.length (n + 1)) G) : aAppS 3 24 (blV 3 b n) (.arr [.agg [I x.f, I x.n, I x.t]] .full) H KH := by
  subst hn
  refine app_bl (b := b) (n := out.length) (cs := out.flatMap syC) (fun e => by rw [List.length_eq_zero_iff.1 e]; rfl) h (flat_lenF syC 3 (fun _ => rfl) out) (fun c hc => by
    obtain ⟨y, -, hy⟩ := List.mem_flatMap.1 hc
    simp only [List.mem_cons, List.not_mem_nil, or_false] at hy
    rcases hy with rfl | rfl | rfl <;> rfl) (fun x hx => by
    simp only [List.mem_singleton] at hx
    subst hx
    exact ⟨rfl, fun c hc => by
      simp only [V.cl, List.mem_cons, List.not_mem_nil, or_false] at hc
      rcases hc with rfl | rfl | rfl <;> rfl⟩) (by simp; omega) (fun _ e => by cases e) (fun _ => ?_)
  have eC : out.flatMap syC ++ [V.agg [I x.f, I x.n, I x.t]].flatMap V.cl = (out ++ [x]).flatMap syC := by simp [V.cl]
  rw [eC]
  refine k _ (fun c hc hne => ?_) ?_ (by rw [List.length_append, killB_len]; omega)
  · rw [List.getElem?_append_left (by rw [killB_len]; exact hc), killB_ne _ _ _ hne]
  · rw [List.getElem?_append_right (by rw [killB_len]; exact Nat.le_refl _), killB_len, Nat.sub_self]; rfl
theorem c16 (s : Sou) (ph : List Int) (H : Hp) (sm : SmS s) (hl : ph.length ≤ 9223372036854775807) : Ret Try.prog 16 [souV s, ints ph .no] H (if (okS s && decide (ph.length ≤ 400) && okLi s ph) = true then .tup [.arr ((sylP s ph).map syV) .no, I 0] else .tup [.arr [] .no, I 2]) H := by
 have hnd : (if (okS s && decide (ph.length ≤ 400) && okLi s ph) = true then V.tup [.arr ((sylP s ph).map syV) .no, I 0] else .tup [.arr [] .no, I 2]).Nd := by split <;> rfl
 refine mk16 _ _ hnd (Nat.le_refl _) (.inl rfl) ?_
 simp only [vc16, real]
 repeat (first | (with_reducible first | refine Ju.go ?_ | (refine Hd.go ?_; intro K Q hK hQ; simp only [nod_agg, List.map_cons, nodL_ints, nd_no, nodL_imm, nodL_arr, List.map_nil, e_bxI, okE_agg, lv_cons, List.length_nil, Nat.zero_add, Nat.reduceAdd, all_c, ck_ints, ck_I, ck_arr, all_n, Bool.and_self, and_true, true_and, nod_cptr, e_ldcA]; subst hK hQ) | refine Jr.go ?_) | refine sd ?_)
 refine call_of (c49 s _ sm) ?_
 repeat (first | (with_reducible first | refine Ju.go ?_ | (refine Hd.go ?_; intro K Q hK hQ; simp only [nod_imm, e_not, nod_ints, nd_no, Try.underlying3, e_len, e_gtr, e_gF, j_or', j_one, nod_cptr, e_ldcA, lv_cons, List.length_nil, Nat.zero_add, Nat.reduceAdd, nod_agg, List.map_cons, nodL_ints, nodL_imm, nodL_arr, List.map_nil, true_and]; subst hK hQ) | refine Jr.go ?_) | refine sd ?_)
 refine jo_n (c50 s ph _ hl) ?_
 have e1 : (!okS s || decide (400 < (ph.length : Int)) || !okLi s ph) = !(okS s && decide (ph.length ≤ 400) && okLi s ph) := by
  have a1 : decide (400 < (ph.length : Int)) = !decide (ph.length ≤ 400) := by rw [← decide_not, decide_eq_decide]; omega
  rw [a1]
  simp only [Bool.not_and]
 rw [e1]
 cases hok : (okS s && decide (ph.length ≤ 400) && okLi s ph)
 ·repeat (first | (with_reducible first | refine Ju.go ?_ | (refine Hd.go ?_; intro K Q hK hQ; simp only [Bool.not_false, List.getD_cons_succ, List.getD_cons_zero, nod_imm, e_cond, if_true]; subst hK hQ) | refine Jr.go ?_) | refine sd ?_)
  exact end2 rfl rfl (.full [] (bel_ints _ [] .full)) (fzI _)
 ·rw [if_pos rfl]
  simp only [Bool.and_eq_true, decide_eq_true_eq] at hok
  obtain ⟨⟨hs, hl4⟩, hli⟩ := hok
  by_cases h0 : ph.length = 0
  ·have e : sylP s ph = [] := if_pos h0
   have d : (ph.length : Int) = 0 := by omega
   rw [e]
   repeat (first | (with_reducible first | refine Ju.go ?_ | (refine Hd.go ?_; intro K Q hK hQ; simp only [Bool.not_true, List.getD_cons_succ, List.getD_cons_zero, nod_imm, e_cond, Bool.false_eq_true, if_false, nod_ints, nd_no, e_len, d, Try.underlying3, e_eql, decide_true, if_true]; subst hK hQ) | refine Jr.go ?_) | refine sd ?_)
   exact end2 rfl rfl (.full [] (bel_ints _ [] .full)) (fzI _)
  ·have d : ¬ (ph.length : Int) = 0 := by omega
   repeat (first | (with_reducible first | refine Ju.go ?_ | (refine Hd.go ?_; intro K Q hK hQ; simp only [Bool.not_true, List.getD_cons_succ, List.getD_cons_zero, nod_imm, e_cond, Bool.false_eq_true, if_false, nod_ints, nd_no, e_len, Try.underlying3, e_eql, d, decide_false]; subst hK hQ) | refine Jr.go ?_) | refine sd ?_)
   have he : sylP s ph = if (sylN s ph ph.length).length = 0 then [⟨0, -1, ph.length⟩] else sylN s ph ph.length := if_neg h0
   refine loop_of (fun q : Nat × Nat × Hp => q.1 ≤ ph.length ∧ ((sylN s ph q.1).length ≠ 0 → q.2.2[q.2.1]? = some (.cells ((sylN s ph q.1).flatMap syC)) ∧ H.length ≤ q.2.1) ∧ H.length ≤ q.2.2.length ∧ ∀ c, c < H.length → q.2.2[c]? = H[c]?) (fun q => [ints ph .no, .cptr (souV s), blV 3 q.2.1 (sylN s ph q.1).length, ints ph .no, I ph.length, I q.1]) (·.2.2) (fun q => ph.length - q.1) (0, 0, H) ⟨Nat.zero_le _, fun h => absurd rfl h, Nat.le_refl _, fun _ _ => rfl⟩ rfl rfl ?_
   rintro ⟨i, b, G⟩ ⟨hi, hb, hln, hlo⟩
   simp only at hi hb hln hlo ⊢
   obtain ⟨l1, l2⟩ := sylN_is s ph i
   repeat (first | (with_reducible first | refine Ju.go ?_ | (refine Hd.go ?_; intro K Q hK hQ; simp only [List.getD_cons_succ, List.getD_cons_zero, nod_imm, Try.underlying3, e_lss, e_cond, decide_eq_true_eq]; subst hK hQ) | refine Jr.go ?_) | refine sd ?_)
   by_cases hlt : i < ph.length
   ·have di : (i : Int) < ph.length := by omega
    have hin := okLi_mem hli (hMem ph hlt)
    repeat (first | (with_reducible first | refine Ju.go ?_ | (refine Hd.go ?_; intro K Q hK hQ; simp only [di, if_true, List.getD_cons_succ, List.getD_cons_zero, nod_ints, nd_no, nod_imm, e_ix, Int.toNat_natCast, true_and, nod_cptr, e_ldc, e_ldcA, lv_cons, List.length_nil, Nat.zero_add, Nat.reduceAdd, nod_agg, List.map_cons, nodL_ints, nodL_imm, nodL_arr, List.map_nil]; subst hK hQ) | refine Jr.go ?_) | refine sd ?_)
    refine call_of (c51 s _ _ hin sm.so) ?_
    have es : sylN s ph (i + 1) = if nuc s (ph.getD i 0) = true then addS s ph i (sylN s ph i) else sylN s ph i := rfl
    cases hnu : nuc s (ph.getD i 0)
    ·rw [hnu] at es
     repeat (first | (with_reducible first | refine Ju.go ?_ | (refine Hd.go ?_; intro K Q hK hQ; simp only [nod_imm, e_not, Bool.not_false, e_cond, if_true, List.getD_cons_succ, List.getD_cons_zero, Try.underlying3, e_add]; subst hK hQ) | refine Jr.go ?_) | refine sd ?_)
     exact ⟨(i + 1, b, G), ⟨hlt, by show (sylN s ph (i + 1)).length ≠ 0 → _; rw [es]; exact hb, hln, hlo⟩, by show [_, _, blV 3 b (sylN s ph (i + 1)).length, _, _, _] = _; rw [es]; rfl, rfl, by show ph.length - (i + 1) < ph.length - i; omega⟩
    ·rw [hnu, if_pos rfl] at es
     generalize sylN s ph i = out at *
     have hol : out.length ≤ 400 := by omega
     by_cases ho : out.length = 0
     ·have d2 : ¬ (0 : Int) < out.length := by omega
      have ea : addS s ph i out = [⟨0, i, ph.length⟩] := if_pos ho
      rw [ea] at es
      have hgl : ∀ x : Blk, (G ++ [x]).length = G.length + 1 := fun x => by simp
      repeat (first | (with_reducible first | refine Ju.go ?_ | (refine Hd.go ?_; intro K Q hK hQ; simp only [nod_imm, e_not, Bool.not_true, e_cond, Bool.false_eq_true, if_false, List.getD_cons_zero, nod_ints, nd_no, e_len, List.getD_cons_succ, e_bd1, okE_I, Nat.reduceAdd, lv_cons, List.length_nil, Nat.zero_add, Nat.reduceLeDiff, cl_imm, spl_s, spl_0, spl_n, e_bd0, true_and, e_bx, okE_agg, all_c, ck_I, all_n, Bool.and_self, and_true, cl_agg, nod_ptr, e_sc0, stV_agg, List.map_cons, nodL_imm, List.map_nil, blV_nod, blV_len, Try.underlying3, e_gtr, d2, decide_false, e_lA0, dr_0, tk_s, tk_0, nod_agg]; subst hK hQ) | refine Jr.go ?_) | refine sd ?_)
      obtain rfl := List.length_eq_zero_iff.1 ho
      refine Eq.mpr (bs_sy ⟨0, (i : Int), ph.length⟩ _ _) ?_
      repeat (first | (with_reducible first | refine Ju.go ?_ | (refine Hd.go ?_; intro K Q hK hQ; simp only [List.length_nil, List.getD_cons_succ, List.getD_cons_zero, nod_arr, nd_full]; subst hK hQ) | refine Jr.go ?_) | refine sd ?_)
      refine app_y (n := 0) (out := []) (x := ⟨0, (i : Int), ph.length⟩) rfl (fun e => absurd rfl e) (by omega) fun G2 k1 k2 k3 => ?_
      rw [hgl] at k1 k2 k3 ⊢
      repeat (first | (with_reducible first | refine Ju.go ?_ | (refine Hd.go ?_; intro K Q hK hQ; simp only [List.length_nil, List.getD_cons_succ, List.getD_cons_zero, nod_imm, Try.underlying3, e_add]; subst hK hQ) | refine Jr.go ?_) | refine sd ?_)
      refine ⟨(i + 1, G.length + 1, G2), ⟨hlt, fun _ => ⟨?_, by show H.length ≤ G.length + 1; omega⟩, by show H.length ≤ G2.length; omega, fun c hc => ?_⟩, ?_, rfl, by show ph.length - (i + 1) < ph.length - i; omega⟩
      ·show G2[G.length + 1]? = some (.cells ((sylN s ph (i + 1)).flatMap syC))
       rw [es]; exact k2
      ·show G2[c]? = _
       rw [k1 c (by omega) (fun e => absurd rfl e), List.getElem?_append_left (by omega)]; exact hlo c hc
      ·show [_, _, blV 3 (G.length + 1) (sylN s ph (i + 1)).length, _, _, _] = _
       rw [es]; rfl
     ·have d2 : (0 : Int) < out.length := by omega
      obtain ⟨gb, gbl⟩ := hb ho
      have gbl2 := get_lt gb
      have hbl : blV 3 b out.length = .sl b 0 out.length out.length 3 := blV_ne _ _ ho
      have hmx := l2 _ (getD_memA out default (i := out.length - 1) (by omega))
      have ea : addS s ph i out = out.set (out.length - 1) ⟨(out.getD (out.length - 1) default).f, (out.getD (out.length - 1) default).n, (i : Int) - ons s (btw ph ((out.getD (out.length - 1) default).n + 1).toNat i)⟩ ++ [⟨(i : Int) - ons s (btw ph ((out.getD (out.length - 1) default).n + 1).toNat i), (i : Int), ph.length⟩] := if_neg ho
      rw [ea] at es
      have ec := flat_getD syC 3 (fun _ => rfl) out default (i := out.length - 1) (k := 1) (by omega) (by decide)
      have ecn : (out.flatMap syC).getD ((out.length - 1) * 3 + 1) .junk = I (out.getD (out.length - 1) default).n := ec
      have efl := flat_lenF syC 3 (fun _ => rfl) out
      generalize hxx : out.getD (out.length - 1) default = x at *
      have r1 : R64 ((out.length : Int) - 1) := by unfold R64; omega
      have d3 : 0 ≤ (out.length : Int) - 1 := by omega
      have d4 : (out.length : Int) - 1 < out.length := by omega
      have tn : ((out.length : Int) - 1).toNat = out.length - 1 := by omega
      have o1 : (out.length - 1) * 3 + 1 + 1 ≤ out.length * 3 := by omega
      have o2 : (out.length - 1) * 3 + 2 + 1 ≤ out.length * 3 := by omega
      have r2 : R64 (x.n + 1) := by unfold R64; omega
      have q0 : 0 ≤ x.n + 1 := by omega
      have q1 : x.n + 1 ≤ (i : Int) := by omega
      have q2 : (i : Int) ≤ ph.length := by omega
      have gB : ∀ z : Blk, (G ++ [z])[b]? = some (.cells (out.flatMap syC)) := fun z => get_app gb
      repeat (first | (with_reducible first | refine Ju.go ?_ | (refine Hd.go ?_; intro K Q hK hQ; simp only [nod_imm, e_not, Bool.not_true, e_cond, Bool.false_eq_true, if_false, List.getD_cons_zero, nod_ints, nd_no, e_len, List.getD_cons_succ, e_bd1, okE_I, Nat.reduceAdd, lv_cons, List.length_nil, Nat.zero_add, Nat.reduceLeDiff, cl_imm, spl_s, spl_0, spl_n, e_bd0, true_and, e_bx, okE_agg, all_c, ck_I, all_n, Bool.and_self, and_true, cl_agg, nod_ptr, e_sc0, stV_agg, List.map_cons, nodL_imm, List.map_nil, blV_nod, blV_len, Try.underlying3, e_gtr, d2, decide_true, if_true, e_sub]; subst hK hQ) | refine Jr.go ?_) | refine sd ?_)
      rw [hbl]
      repeat (first | (with_reducible first | refine Ju.go ?_ | (refine Hd.go ?_; intro K Q hK hQ; simp only [e_ixS, d3, d4, tn, Nat.zero_add, true_and, List.getD_cons_succ, List.getD_cons_zero, nod_cptr, e_ldcA, lv_cons, List.length_nil, Nat.reduceAdd, nod_ptr, e_ncP, e_fa, ld_at (gB _), efl, o1, ecn, nod_imm, Try.underlying3, e_add, r2, nod_ints, nd_no, e_slcLH, q0, q1, q2, Int.toNat_natCast, nod_agg, List.map_cons, nodL_ints, nodL_imm, nodL_arr, List.map_nil]; subst hK hQ) | refine Jr.go ?_) | refine sd ?_)
      have hso := hs
      unfold okS okHs at hso
      simp only [Bool.and_eq_true, decide_eq_true_eq, List.all_eq_true] at hso
      refine call_ofD (c52 s _ _ (by have := hso.1.1.2; omega) (fun o ho => by
       have := hso.2 o ho
       unfold okOn at this
       simp only [Bool.and_eq_true, inB_iff] at this
       omega) (by rw [List.length_drop, List.length_take]; omega)) ?_
      have eon : ons s ((ph.take i).drop (x.n + 1).toNat) = ons s (btw ph (x.n + 1).toNat i) := rfl
      rw [eon]
      have hon4 : ons s (btw ph (x.n + 1).toNat i) ≤ 4 := Nat.le_trans (onN_le _ _ _) (Nat.min_le_left _ _)
      obtain ⟨fr, hfr⟩ : ∃ fr : Int, fr = (i : Int) - ons s (btw ph (x.n + 1).toNat i) := ⟨_, rfl⟩
      have r3 : R64 ((i : Int) - ons s (btw ph (x.n + 1).toNat i)) := by unfold R64; omega
      rw [← hfr] at es r3
      have p2 : spl (out.flatMap syC) ((out.length - 1) * 3 + 2) [I fr] = (out.set (out.length - 1) ⟨x.f, x.n, fr⟩).flatMap syC := flat_set syC 3 (fun _ => rfl) out default (i := out.length - 1) (k := 2) (by omega) (by decide) _ _ (by rw [hxx]; rfl)
      have gX : ∀ z : Blk, (G ++ [z])[G.length]? = some z := fun z => tail0 _ _
      have hgl : ∀ x : Blk, (G ++ [x]).length = G.length + 1 := fun x => by simp
      have gX3 : ∀ z w : Blk, ((G ++ [z]).set b w)[G.length]? = some z := fun z w => by rw [get_ne (by omega)]; exact gX z
      have gB3 : ∀ z w : Blk, ((G ++ [z]).set b w)[b]? = some w := fun z w => List.getElem?_set_self (by rw [hgl]; omega)
      repeat (first | (with_reducible first | refine Ju.go ?_ | (refine Hd.go ?_; intro K Q hK hQ; simp only [List.getD_cons_succ, List.getD_cons_zero, nod_imm, Try.underlying3, e_sub, ← hfr, r3, true_and, nod_ptr, e_fa, Nat.add_zero, e_sc0, Nat.zero_add, lv_cons, List.length_nil, Nat.reduceAdd, Nat.reduceLeDiff, stV_imm, okE_I, cl_imm, spl_0, spl_n, e_lc0, e_ncP]; subst hK hQ) | refine Jr.go ?_) | refine sd ?_)
      repeat (first | (with_reducible first | refine Ju.go ?_ | (refine Hd.go ?_; intro K Q hK hQ; simp only []; subst hK hQ) | refine Jr.go ?_) | refine sd ?_)
      repeat (first | (with_reducible first | refine Ju.go ?_ | (refine Hd.go ?_; intro K Q hK hQ; simp only [st_at (gB _), efl, o2, stV_imm, okE_I, cl_imm, p2, true_and, List.getD_cons_zero, List.getD_cons_succ, nod_ptr]; subst hK hQ) | refine Jr.go ?_) | refine sd ?_)
      repeat (first | (with_reducible first | refine Ju.go ?_ | (refine Hd.go ?_; intro K Q hK hQ; simp only [ldA_at (gX3 _ _), Nat.zero_add, lv_cons, List.length_nil, Nat.reduceAdd, Nat.reduceLeDiff, dr_0, tk_s, tk_0, nod_agg, List.map_cons, nodL_imm, List.map_nil, true_and]; subst hK hQ) | refine Jr.go ?_) | refine sd ?_)
      refine Eq.mpr (bs_sy ⟨fr, (i : Int), ph.length⟩ _ _) ?_
      show aAppS 3 24 (.sl b 0 out.length out.length 3) (.arr [.agg [I fr, I i, I ph.length]] .full) _ _
      rw [← hbl]
      refine app_y (n := out.length) (out := out.set (out.length - 1) ⟨x.f, x.n, fr⟩) (x := ⟨fr, (i : Int), ph.length⟩) (by rw [List.length_set]) (fun _ => gB3 _ _) (by omega) fun G2 k1 k2 k3 => ?_
      rw [List.length_set, hgl] at k1 k2 k3 ⊢
      repeat (first | (with_reducible first | refine Ju.go ?_ | (refine Hd.go ?_; intro K Q hK hQ; simp only [List.getD_cons_succ, List.getD_cons_zero, nod_imm, Try.underlying3, e_add]; subst hK hQ) | refine Jr.go ?_) | refine sd ?_)
      refine ⟨(i + 1, G.length + 1, G2), ⟨hlt, fun _ => ⟨?_, by show H.length ≤ G.length + 1; omega⟩, by show H.length ≤ G2.length; omega, fun c hc => ?_⟩, ?_, rfl, by show ph.length - (i + 1) < ph.length - i; omega⟩
      ·show G2[G.length + 1]? = some (.cells ((sylN s ph (i + 1)).flatMap syC))
       rw [es]; exact k2
      ·show G2[c]? = _
       rw [k1 c (by omega) (fun e => by omega), get_ne (by omega), List.getElem?_append_left (by omega)]; exact hlo c hc
      ·show [_, _, blV 3 (G.length + 1) (sylN s ph (i + 1)).length, _, _, _] = _
       rw [es, List.length_append, List.length_set]; rfl
   ·have di : ¬ (i : Int) < ph.length := by omega
    obtain rfl : i = ph.length := by omega
    repeat (first | (with_reducible first | refine Ju.go ?_ | (refine Hd.go ?_; intro K Q hK hQ; simp only [di, if_false, List.getD_cons_succ, List.getD_cons_zero, blV_nod, blV_len, nod_imm, Try.underlying3, e_eql, e_cond, decide_eq_true_eq]; subst hK hQ) | refine Jr.go ?_) | refine sd ?_)
    by_cases hz : (sylN s ph ph.length).length = 0
    ·have dz : ((sylN s ph ph.length).length : Int) = 0 := by omega
     rw [if_pos hz] at he
     rw [he]
     repeat (first | (with_reducible first | refine Ju.go ?_ | (refine Hd.go ?_; intro K Q hK hQ; simp only [dz, if_true, List.getD_cons_zero, nod_ints, nd_no, e_len, Int.reduceNeg, nod_imm, e_bd1, okE_I, Nat.reduceAdd, lv_cons, List.length_nil, Nat.zero_add, Nat.reduceLeDiff, cl_imm, spl_s, spl_0, spl_n, e_bd0, true_and, nod_agg, List.map_cons, nodL_imm, List.map_nil]; subst hK hQ) | refine Jr.go ?_) | refine sd ?_)
     refine Eq.mpr (bs_sy ⟨0, -1, ph.length⟩ _ _) ?_
     repeat (first | (with_reducible first | refine Ju.go ?_ | (refine Hd.go ?_; intro K Q hK hQ; simp only [Int.reduceNeg]; subst hK hQ) | refine Jr.go ?_) | refine sd ?_)
     refine end2T rfl rfl (.full _ (.arr _ _ fun c hc => ?_)) (fzI _) (take_low hlo hln)
     simp only [List.mem_singleton] at hc
     subst hc
     exact .agg _ fun c hc => by
      simp only [List.mem_cons, List.not_mem_nil, or_false] at hc
      rcases hc with rfl | rfl | rfl <;> exact .imm _
    ·have dz : ¬ ((sylN s ph ph.length).length : Int) = 0 := by omega
     rw [if_neg hz] at he
     rw [he]
     repeat (first | (with_reducible first | refine Ju.go ?_ | (refine Hd.go ?_; intro K Q hK hQ; simp only [dz, if_false, List.getD_cons_succ, List.getD_cons_zero]; subst hK hQ) | refine Jr.go ?_) | refine sd ?_)
     refine end2T rfl rfl ?_ (fzI _) (take_low hlo hln)
     show Fz _ _ (blV 3 b (sylN s ph ph.length).length).nod.nod _
     rw [blV_nod, blV_nod]
     exact fz_bkY fun e => ⟨(hb e).2, (hb e).1⟩
structure Sty where
 fe : Bool
 sk : Int
 pl : Int
 hv : Bool
 sp : Int
abbrev stvV (t : Sty) : V := .agg [B t.fe, I t.sk, I t.pl, B t.hv, I t.sp]
abbrev boV (b : Bool) : V := B b
theorem ix_bo (l : List Bool) (f : Fl) (i : Int) {K : V → Prop} : aIx 1 (.arr (l.map boV) f) (I i) K = (0 ≤ i ∧ i < l.length ∧ K (.cptr (boV (l.getD i.toNat false)))) := e_ixE boV false (fun _ => rfl) l f i
def okSt (t : Sty) : Bool := inB t.sk 0 2 && inB t.pl 0 5 && (decide (t.sp = 0) || inB t.sp 2 3)
def atP (t : Sty) (m k : Nat) : Nat := if t.fe = true then m - 1 - k else k
def fstP (t : Sty) (m : Nat) : Nat := if t.sk < (m : Int) then t.sk.toNat else 0
def hvP (t : Sty) (h : List Bool) (k : Nat) : Bool := decide (fstP t h.length ≤ k) && h.getD (atP t h.length k) false
def mkP (t : Sty) (h : List Bool) : Nat := if t.hv = true then (match (List.range h.length).find? (hvP t h) with | some k => k | none => min (fstP t h.length + t.pl.toNat) (h.length - 1)) else min (fstP t h.length + t.pl.toNat) (h.length - 1)
def mnP (t : Sty) (h : List Bool) : Nat := atP t h.length (mkP t h)
def sdF (n s : Nat) : List Int := ((List.range n).filter fun i => decide ((n - i) % s = 0)).map Int.ofNat
def sdP (t : Sty) (h : List Bool) : List Int := if 0 < t.sp then sdF (mnP t h) t.sp.toNat else []
theorem sdF_lt {n s : Nat} (h : n < s) : sdF n s = [] := by
 unfold sdF
 have : (List.range n).filter (fun i => decide ((n - i) % s = 0)) = [] := by
  rw [List.filter_eq_nil_iff]
  intro i hi
  rw [List.mem_range] at hi
  rw [Nat.mod_eq_of_lt (by omega)]
  simp; omega
 rw [this]; rfl
theorem sdF_add {n s : Nat} (hs : 0 < s) : sdF (n + s) s = sdF n s ++ [(n : Int)] := by
 unfold sdF
 have e1 : List.range (n + s) = List.range n ++ (n :: (List.range (s - 1)).map fun i => n + 1 + i) := by
  rw [List.range_add]
  congr 1
  obtain ⟨k, rfl⟩ : ∃ k, s = k + 1 := ⟨s - 1, by omega⟩
  rw [List.range_succ_eq_map, List.map_cons, List.map_map]
  simp only [Nat.add_zero, Nat.add_sub_cancel]
  congr 1
  refine List.map_congr_left fun i _ => ?_
  show n + (i + 1) = n + 1 + i
  omega
 rw [e1, List.filter_append, List.filter_cons]
 have e2 : ((List.range (s - 1)).map fun i => n + 1 + i).filter (fun i => decide ((n + s - i) % s = 0)) = [] := by
  rw [List.filter_eq_nil_iff]
  intro i hi
  obtain ⟨j, hj, rfl⟩ := List.mem_map.1 hi
  rw [List.mem_range] at hj
  rw [Nat.mod_eq_of_lt (by omega)]
  simp; omega
 have e3 : decide ((n + s - n) % s = 0) = true := by rw [Nat.add_sub_cancel_left, Nat.mod_self]; rfl
 have e4 : (List.range n).filter (fun i => decide ((n + s - i) % s = 0)) = (List.range n).filter (fun i => decide ((n - i) % s = 0)) := by
  refine List.filter_congr fun i hi => ?_
  rw [List.mem_range] at hi
  rw [show n + s - i = (n - i) + s by omega, Nat.add_mod_right]
 rw [e2, e3, if_pos rfl, e4, List.map_append]
 rfl
theorem c57n (H : Hp) : RetE Try.prog 57 [.arr [] .full] H (fun _ H' => H' = H) := by
 refine mkE57 _ ?_
 simp only [vc57, real]
 repeat (first | (with_reducible first | refine Ju.go ?_ | (refine Hd.go ?_; intro K Q hK hQ; simp only [nod_arr, nd_full, e_lenA, List.length_nil, Int.cast_ofNat_Int, nod_imm, Try.underlying3, e_sub]; subst hK hQ) | refine Jr.go ?_) | refine sd ?_)
 refine loop_of (fun i : Nat => i = 0) (fun i => [.arr [] .full, I 0, I (-1)]) (fun _ => H) (fun _ => 0) 0 rfl rfl rfl ?_
 rintro i rfl
 repeat (first | (with_reducible first | refine Ju.go ?_ | (refine Hd.go ?_; intro K Q hK hQ; simp only [Int.reduceNeg, List.getD_cons_succ, List.getD_cons_zero, nod_imm, Try.underlying3, e_lss, e_cond, decide_eq_true_eq]; subst hK hQ) | refine Jr.go ?_) | refine sd ?_)
 exact rfl
theorem c56 (t : Sty) (m k : Nat) (H : Hp) (hm : m ≤ 1000000) (hk : k < m) : Ret Try.prog 56 [I k, .cptr (stvV t), .cptr (I m)] H (I (atP t m k)) H := by
 cases hf : t.fe
 ·have e : atP t m k = k := if_neg (by rw [hf]; decide)
  rw [e]
  refine mk56 _ _ _ rfl (Nat.le_refl _) (.inl rfl) ?_
  simp only [vc56, real]
  repeat (first | (with_reducible first | refine Ju.go ?_ | (refine Hd.go ?_; intro K Q hK hQ; simp only [nod_cptr, e_fac, Nat.zero_add, hf, lv_cons, List.length_nil, Nat.reduceAdd, Nat.reduceLeDiff, List.getD_cons_zero, true_and, e_ldc, nod_imm, e_cond, Bool.false_eq_true, if_false]; subst hK hQ) | refine Jr.go ?_) | refine sd ?_)
  exact end1 (fzI _)
 ·have e : atP t m k = m - 1 - k := if_pos hf
  have r1 : R64 ((m : Int) - 1) := by unfold R64; omega
  have r2 : R64 ((m : Int) - 1 - k) := by unfold R64; omega
  have e2 : ((m - 1 - k : Nat) : Int) = (m : Int) - 1 - k := by omega
  rw [e, e2]
  refine mk56 _ _ _ rfl (Nat.le_refl _) (.inl rfl) ?_
  simp only [vc56, real]
  repeat (first | (with_reducible first | refine Ju.go ?_ | (refine Hd.go ?_; intro K Q hK hQ; simp only [nod_cptr, e_fac, Nat.zero_add, hf, lv_cons, List.length_nil, Nat.reduceAdd, Nat.reduceLeDiff, List.getD_cons_zero, true_and, e_ldc, nod_imm, e_cond, if_true, Try.underlying3, e_sub, r1, r2]; subst hK hQ) | refine Jr.go ?_) | refine sd ?_)
  exact end1 (fzI _)
theorem atP_lt (t : Sty) {m k : Nat} (h : k < m) : atP t m k < m := by unfold atP; split <;> omega
theorem c22 (t : Sty) (h : List Bool) (H : Hp) (hl : h.length ≤ 9223372036854775807) : Ret Try.prog 22 [stvV t, .arr (h.map boV) .no] H (if (okSt t && decide (h.length ≤ 60)) = true then (if h.length = 0 then .tup [I 0, ints [] .no, I 5] else .tup [I (mnP t h), ints (sdP t h) .no, I 0]) else .tup [I 0, ints [] .no, I 2]) H := by
 have hnd : (if (okSt t && decide (h.length ≤ 60)) = true then (if h.length = 0 then V.tup [I 0, ints [] .no, I 5] else .tup [I (mnP t h), ints (sdP t h) .no, I 0]) else .tup [I 0, ints [] .no, I 2]).Nd := by
  split
  ·split <;> rfl
  ·rfl
 refine mk22 _ _ hnd (Nat.le_refl _) (.inl rfl) ?_
 simp only [vc22, real]
 repeat (first | (with_reducible first | refine Ju.go ?_ | (refine Hd.go ?_; intro K Q hK hQ; simp only [nod_agg, List.map_cons, nodL_imm, List.map_nil, e_bxI, okE_agg, lv_cons, List.length_nil, Nat.zero_add, Nat.reduceAdd, all_c, ck_B, ck_I, all_n, Bool.and_self, and_true, true_and, nod_cptr, e_fac, Nat.reduceLeDiff, List.getD_cons_succ, List.getD_cons_zero, e_ldc, nod_imm]; subst hK hQ) | refine Jr.go ?_) | refine sd ?_)
 refine call_of (c55 _ _ _ _) ?_
 repeat (first | (with_reducible first | refine Ju.go ?_ | (refine Hd.go ?_; intro K Q hK hQ; simp only [nod_imm, e_not, nod_cptr, e_fac, Nat.reduceAdd, lv_cons, List.length_nil, Nat.zero_add, Nat.reduceLeDiff, List.getD_cons_succ, List.getD_cons_zero, e_ldc, true_and, e_gF]; subst hK hQ) | refine Jr.go ?_) | refine sd ?_)
 refine jo_n (c55 _ _ _ _) ?_
 repeat (first | (with_reducible first | refine Ju.go ?_ | (refine Hd.go ?_; intro K Q hK hQ; simp only [nod_imm, nod_cptr, Try.underlying3, nod_nod, e_fac, Nat.reduceAdd, lv_cons, List.length_nil, Nat.zero_add, Nat.reduceLeDiff, List.getD_cons_succ, List.getD_cons_zero, e_ldc, true_and, e_neq, e_gT, e_gF]; subst hK hQ) | refine Jr.go ?_) | refine sd ?_)
 generalize hR : Rn _ = R
 have key : R [.arr (h.map boV) .no, .cptr (stvV t), B (!(okSt t && decide (h.length ≤ 60)))] H := by
  subst hR
  cases hok : (okSt t && decide (h.length ≤ 60))
  ·repeat (first | (with_reducible first | refine Ju.go ?_ | (refine Hd.go ?_; intro K Q hK hQ; simp only [Bool.not_false, List.getD_cons_succ, List.getD_cons_zero, nod_imm, e_cond, if_true]; subst hK hQ) | refine Jr.go ?_) | refine sd ?_)
   exact end3 rfl rfl rfl (fzI _) (.full [] (bel_ints _ [] .full)) (fzI _)
  ·rw [if_pos rfl]
   rw [Bool.and_eq_true, decide_eq_true_eq] at hok
   obtain ⟨ho, hl6⟩ := hok
   unfold okSt at ho
   simp only [Bool.and_eq_true, Bool.or_eq_true, decide_eq_true_eq, inB_iff] at ho
   by_cases h0 : h.length = 0
   ·have d : (h.length : Int) = 0 := by omega
    rw [if_pos h0]
    repeat (first | (with_reducible first | refine Ju.go ?_ | (refine Hd.go ?_; intro K Q hK hQ; simp only [Bool.not_true, List.getD_cons_succ, List.getD_cons_zero, nod_imm, e_cond, Bool.false_eq_true, if_false, nod_arr, nd_no, e_lenA, List.length_map, d, e_bxI, okE_I, true_and, nod_cptr, e_ldc, Try.underlying3, e_eql, decide_true, if_true]; subst hK hQ) | refine Jr.go ?_) | refine sd ?_)
    exact end3 rfl rfl rfl (fzI _) (.full [] (bel_ints _ [] .full)) (fzI _)
   ·have d : ¬ (h.length : Int) = 0 := by omega
    rw [if_neg h0]
    repeat (first | (with_reducible first | refine Ju.go ?_ | (refine Hd.go ?_; intro K Q hK hQ; simp only [Bool.not_true, List.getD_cons_succ, List.getD_cons_zero, nod_imm, e_cond, Bool.false_eq_true, if_false, nod_arr, nd_no, e_lenA, List.length_map, e_bxI, okE_I, true_and, nod_cptr, e_ldc, Try.underlying3, e_eql, d, decide_false, e_fac, Nat.reduceAdd, lv_cons, List.length_nil, Nat.zero_add, Nat.reduceLeDiff, e_gtr, decide_eq_true_eq]; subst hK hQ) | refine Jr.go ?_) | refine sd ?_)
    have hpos : 0 < h.length := by omega
    generalize hR12 : Rn _ = R12
    have key12 : R12 [.arr (h.map boV) .no, .cptr (stvV t), .cptr (I h.length), .fn 56 [.cptr (stvV t), .cptr (I h.length)], I (fstP t h.length : Nat)] H := by
     subst hR12
     have hf : fstP t h.length < h.length ∧ fstP t h.length ≤ 2 := by unfold fstP; split <;> omega
     have r1 : R64 (((fstP t h.length : Nat) : Int) + t.pl) := by unfold R64; omega
     have r2 : R64 ((h.length : Int) - 1) := by unfold R64; omega
     have emin : min (((fstP t h.length : Nat) : Int) + t.pl) ((h.length : Int) - 1) = ((min (fstP t h.length + t.pl.toNat) (h.length - 1) : Nat) : Int) := by omega
     repeat (first | (with_reducible first | refine Ju.go ?_ | (refine Hd.go ?_; intro K Q hK hQ; simp only [List.getD_cons_succ, List.getD_cons_zero, nod_cptr, e_fac, Nat.reduceAdd, lv_cons, List.length_nil, Nat.zero_add, Nat.reduceLeDiff, true_and, e_ldc, nod_imm, Try.underlying3, e_add, r1, e_sub, r2, e_min2, e_cond]; subst hK hQ) | refine Jr.go ?_) | refine sd ?_)
     rw [emin]
     generalize hR25 : Rn _ = R25
     have key25 : R25 [.cptr (stvV t), .fn 56 [.cptr (stvV t), .cptr (I h.length)], I (mkP t h : Nat)] H := by
      subst hR25
      have hmk : mkP t h < h.length := by
       unfold mkP
       split
       ·split
        ·rename_i k hk
         have := (List.find?_range_eq_some.1 hk).2.1
         rwa [List.mem_range] at this
        ·omega
       ·omega
      have hmn : mnP t h < h.length := atP_lt t hmk
      repeat (first | (with_reducible first | refine Ju.go ?_ | (refine Hd.go ?_; intro K Q hK hQ; simp only [List.getD_cons_succ, List.getD_cons_zero, nod_fn, nod_imm, e_callEG]; subst hK hQ) | refine Jr.go ?_) | refine sd ?_)
      refine call_of (c56 t h.length (mkP t h) H (by omega) hmk) ?_
      have emn : atP t h.length (mkP t h) = mnP t h := rfl
      rw [emn]
      have esd : sdP t h = if 0 < t.sp then sdF (mnP t h) t.sp.toNat else [] := rfl
      generalize mnP t h = mn at *
      repeat (first | (with_reducible first | refine Ju.go ?_ | (refine Hd.go ?_; intro K Q hK hQ; simp only [List.getD_cons_zero, nod_cptr, e_fac, Nat.reduceAdd, lv_cons, List.length_nil, Nat.zero_add, Nat.reduceLeDiff, List.getD_cons_succ, true_and, e_ldc, nod_imm, Try.underlying3, e_gtr, e_cond, decide_eq_true_eq]; subst hK hQ) | refine Jr.go ?_) | refine sd ?_)
      generalize hR30 : Rn _ = R30
      have key30 : ∀ (acc : List Int) (b : Nat) (G : Hp), (acc.length ≠ 0 → G[b]? = some (.cells (acc.map I)) ∧ H.length ≤ b) → acc.length ≤ 60 → sdP t h = acc.reverse → H.length ≤ G.length → (∀ c, c < H.length → G[c]? = H[c]?) → R30 [I mn, blV 1 b acc.length] G := by
       intro acc b G hb hal he hln hlo
       subst hR30
       rw [he]
       by_cases ha : acc.length = 0
       ·obtain rfl := List.length_eq_zero_iff.1 ha
        have e0 : blV 1 b ([] : List Int).length = .arr [] .full := rfl
        repeat (first | (with_reducible first | refine Ju.go ?_ | (refine Hd.go ?_; intro K Q hK hQ; simp only [List.length_nil, List.getD_cons_succ, List.getD_cons_zero, nod_nod]; subst hK hQ) | refine Jr.go ?_) | refine sd ?_)
        refine callE_of (c57n G) ?_
        rintro v G2 rfl
        repeat (first | (with_reducible first | refine Ju.go ?_ | (refine Hd.go ?_; intro K Q hK hQ; simp only []; subst hK hQ) | refine Jr.go ?_) | refine sd ?_)
        exact end3T rfl rfl rfl (fzI _) (.full [] (bel_ints _ [] .full)) (fzI _) (take_low hlo hln)
       ·obtain ⟨h1, h2⟩ := hb ha
        have e0 : blV 1 b acc.length = .sl b 0 acc.length acc.length 1 := blV_ne _ _ ha
        repeat (first | (with_reducible first | refine Ju.go ?_ | (refine Hd.go ?_; intro K Q hK hQ; simp only [e0, List.getD_cons_succ, List.getD_cons_zero, nod_sl]; subst hK hQ) | refine Jr.go ?_) | refine sd ?_)
        refine callE_of (c57 acc G b h1 (fun e => ha (by rw [e]; rfl)) (by omega)) ?_
        rintro v G2 rfl
        repeat (first | (with_reducible first | refine Ju.go ?_ | (refine Hd.go ?_; intro K Q hK hQ; simp only []; subst hK hQ) | refine Jr.go ?_) | refine sd ?_)
        have hbl := get_lt h1
        refine end3T rfl rfl rfl (fzI _) ?_ (fzI _) (take_low (fun c hc => by rw [get_ne (by omega)]; exact hlo c hc) (by rw [List.length_set]; exact hln))
        have := fz_bkS (n := H.length) (b := b) (H := G.set b (.cells (acc.reverse.map I))) (os := acc.reverse) fun _ => ⟨h2, List.getElem?_set_self hbl⟩
        rw [List.length_reverse, e0] at this
        exact this
      by_cases hsp : 0 < t.sp
      ·rw [if_pos hsp] at esd
       have hsp3 : t.sp ≤ 3 := by omega
       have r3 : R64 ((mn : Int) - t.sp) := by unfold R64; omega
       repeat (first | (with_reducible first | refine Ju.go ?_ | (refine Hd.go ?_; intro K Q hK hQ; simp only [hsp, if_true, List.getD_cons_zero, nod_cptr, e_fac, Nat.reduceAdd, lv_cons, List.length_nil, Nat.zero_add, Nat.reduceLeDiff, List.getD_cons_succ, true_and, e_ldc, nod_imm, Try.underlying3, e_sub, r3]; subst hK hQ) | refine Jr.go ?_) | refine sd ?_)
       refine loop_of (fun q : Int × List Int × Nat × Hp => -t.sp ≤ q.1 ∧ (q.2.1.length : Int) + q.1 + t.sp ≤ mn ∧ sdF mn t.sp.toNat = sdF (q.1 + t.sp).toNat t.sp.toNat ++ q.2.1.reverse ∧ (q.2.1.length ≠ 0 → q.2.2.2[q.2.2.1]? = some (.cells (q.2.1.map I)) ∧ H.length ≤ q.2.2.1) ∧ H.length ≤ q.2.2.2.length ∧ ∀ c, c < H.length → q.2.2.2[c]? = H[c]?) (fun q => [.cptr (stvV t), I mn, blV 1 q.2.2.1 q.2.1.length, I q.1]) (·.2.2.2) (fun q => (q.1 + t.sp).toNat) ((mn : Int) - t.sp, [], 0, H) ⟨by show -t.sp ≤ (mn : Int) - t.sp; omega, by show ((0 : Nat) : Int) + ((mn : Int) - t.sp) + t.sp ≤ mn; omega, by show _ = sdF ((mn : Int) - t.sp + t.sp).toNat _ ++ []; rw [List.append_nil, show ((mn : Int) - t.sp + t.sp).toNat = mn by omega], fun h => absurd rfl h, Nat.le_refl _, fun _ _ => rfl⟩ rfl rfl ?_
       rintro ⟨i, acc, b, G⟩ ⟨hi1, hi2, hsd, hb, hln, hlo⟩
       simp only at hi1 hi2 hsd hb hln hlo ⊢
       repeat (first | (with_reducible first | refine Ju.go ?_ | (refine Hd.go ?_; intro K Q hK hQ; simp only [List.getD_cons_succ, List.getD_cons_zero, nod_imm, Try.underlying3, e_geq, e_cond, decide_eq_true_eq]; subst hK hQ) | refine Jr.go ?_) | refine sd ?_)
       by_cases hi0 : 0 ≤ i
       ·have r4 : R64 (i - t.sp) := by unfold R64; omega
        repeat (first | (with_reducible first | refine Ju.go ?_ | (refine Hd.go ?_; intro K Q hK hQ; simp only [hi0, if_true, List.getD_cons_succ, List.getD_cons_zero, nod_imm, bs1, nod_ints, nd_full]; subst hK hQ) | refine Jr.go ?_) | refine sd ?_)
        refine app_ints (xs := acc) (ys := [i]) rfl (fun e => (hb e).1) (by show _ + 1 ≤ _; omega) fun G2 k1 k2 k3 => ?_
        simp only [List.length_singleton] at k2 ⊢
        repeat (first | (with_reducible first | refine Ju.go ?_ | (refine Hd.go ?_; intro K Q hK hQ; simp only [List.getD_cons_zero, nod_cptr, e_fac, Nat.reduceAdd, lv_cons, List.length_nil, Nat.zero_add, Nat.reduceLeDiff, List.getD_cons_succ, true_and, e_ldc, nod_imm, Try.underlying3, e_sub, r4]; subst hK hQ) | refine Jr.go ?_) | refine sd ?_)
        refine ⟨(i - t.sp, acc ++ [i], G.length, G2), ⟨by show -t.sp ≤ i - t.sp; omega, by show ((acc ++ [i]).length : Int) + (i - t.sp) + t.sp ≤ mn; rw [List.length_append]; show ((acc.length + 1 : Nat) : Int) + _ + _ ≤ _; omega, ?_, fun _ => ⟨k2 (by omega), hln⟩, by show H.length ≤ G2.length; omega, fun c hc => ?_⟩, ?_, rfl, by show (i - t.sp + t.sp).toNat < (i + t.sp).toNat; omega⟩
        ·show _ = sdF (i - t.sp + t.sp).toNat _ ++ (acc ++ [i]).reverse
         rw [hsd, show (i + t.sp).toNat = i.toNat + t.sp.toNat by omega, sdF_add (by omega), show (i - t.sp + t.sp).toNat = i.toNat by omega, List.reverse_append, List.append_assoc]
         have : ((i.toNat : Nat) : Int) = i := by omega
         rw [this]; rfl
        ·show G2[c]? = _
         rw [k1 c (by omega) (fun e => by have := (hb e).2; omega)]; exact hlo c hc
        ·show [_, _, blV 1 G.length (acc ++ [i]).length, _] = _
         rw [List.length_append]; rfl
       ·repeat (first | (with_reducible first | refine Ju.go ?_ | (refine Hd.go ?_; intro K Q hK hQ; simp only [hi0, if_false]; subst hK hQ) | refine Jr.go ?_) | refine sd ?_)
        rw [sdF_lt (n := (i + t.sp).toNat) (s := t.sp.toNat) (by omega), List.nil_append] at hsd
        exact key30 acc b G hb (by omega) (esd.trans hsd) hln hlo
      ·rw [if_neg hsp] at esd
       repeat (first | (with_reducible first | refine Ju.go ?_ | (refine Hd.go ?_; intro K Q hK hQ; simp only [hsp, if_false]; subst hK hQ) | refine Jr.go ?_) | refine sd ?_)
       exact key30 [] 0 H (fun h => absurd rfl h) (by decide) esd (Nat.le_refl _) fun _ _ => rfl
     cases hv : t.hv
     ·have e : mkP t h = min (fstP t h.length + t.pl.toNat) (h.length - 1) := if_neg (by rw [hv]; decide)
      rw [e] at key25
      repeat (first | (with_reducible first | refine Ju.go ?_ | (refine Hd.go ?_; intro K Q hK hQ; simp only [Bool.false_eq_true, if_false]; subst hK hQ) | refine Jr.go ?_) | refine sd ?_)
      exact key25
     ·have e : mkP t h = (match (List.range h.length).find? (hvP t h) with | some k => k | none => min (fstP t h.length + t.pl.toNat) (h.length - 1)) := if_pos hv
      repeat (first | (with_reducible first | refine Ju.go ?_ | (refine Hd.go ?_; intro K Q hK hQ; simp only [if_true, List.getD_cons_zero, List.getD_cons_succ, nod_imm]; subst hK hQ) | refine Jr.go ?_) | refine sd ?_)
      refine loop_of (fun k : Nat => k ≤ h.length ∧ fstP t h.length ≤ k ∧ ∀ j, j < k → hvP t h j = false) (fun k => [.arr (h.map boV) .no, .cptr (stvV t), .cptr (I h.length), .fn 56 [.cptr (stvV t), .cptr (I h.length)], I ((min (fstP t h.length + t.pl.toNat) (h.length - 1) : Nat) : Int), I k]) (fun _ => H) (fun k => h.length - k) (fstP t h.length) ⟨by omega, Nat.le_refl _, fun j hj => by unfold hvP; rw [decide_eq_false (by omega)]; rfl⟩ rfl rfl ?_
      rintro k ⟨hk, hk2, hno⟩
      repeat (first | (with_reducible first | refine Ju.go ?_ | (refine Hd.go ?_; intro K Q hK hQ; simp only [List.getD_cons_succ, List.getD_cons_zero, nod_cptr, e_ldc, nod_imm, Try.underlying3, e_lss, e_cond, decide_eq_true_eq]; subst hK hQ) | refine Jr.go ?_) | refine sd ?_)
      by_cases hkl : k < h.length
      ·have dk : (k : Int) < h.length := by omega
       have hat := atP_lt t hkl
       have hat2 : ((atP t h.length k : Nat) : Int) < h.length := by omega
       repeat (first | (with_reducible first | refine Ju.go ?_ | (refine Hd.go ?_; intro K Q hK hQ; simp only [dk, if_true, List.getD_cons_succ, List.getD_cons_zero, nod_fn, nod_imm, e_callEG]; subst hK hQ) | refine Jr.go ?_) | refine sd ?_)
       refine call_of (c56 t h.length k H (by omega) hkl) ?_
       repeat (first | (with_reducible first | refine Ju.go ?_ | (refine Hd.go ?_; intro K Q hK hQ; simp only [List.getD_cons_zero, nod_arr, nd_no, nod_imm, ix_bo, hat2, Int.toNat_natCast, true_and, nod_cptr, e_ldc, e_cond]; subst hK hQ) | refine Jr.go ?_) | refine sd ?_)
       cases hb : h.getD (atP t h.length k) false
       ·repeat (first | (with_reducible first | refine Ju.go ?_ | (refine Hd.go ?_; intro K Q hK hQ; simp only [Bool.false_eq_true, if_false, List.getD_cons_succ, List.getD_cons_zero, nod_imm, Try.underlying3, e_add]; subst hK hQ) | refine Jr.go ?_) | refine sd ?_)
        refine ⟨k + 1, ⟨hkl, by omega, fun j hj => ?_⟩, rfl, rfl, by omega⟩
        by_cases ej : j = k
        ·subst ej; unfold hvP; rw [hb, Bool.and_false]
        ·exact hno j (by omega)
       ·have hfd : (List.range h.length).find? (hvP t h) = some k := List.find?_range_eq_some.2 ⟨by unfold hvP; rw [hb, decide_eq_true hk2]; rfl, List.mem_range.2 hkl, fun j hj => by rw [hno j hj]; rfl⟩
        rw [hfd] at e
        rw [e] at key25
        repeat (first | (with_reducible first | refine Ju.go ?_ | (refine Hd.go ?_; intro K Q hK hQ; simp only [if_true]; subst hK hQ) | refine Jr.go ?_) | refine sd ?_)
        exact key25
      ·have dk : ¬ (k : Int) < h.length := by omega
       have hfd : (List.range h.length).find? (hvP t h) = none := List.find?_range_eq_none.2 fun j hj => by rw [hno j (by omega)]; rfl
       rw [hfd] at e
       rw [e] at key25
       repeat (first | (with_reducible first | refine Ju.go ?_ | (refine Hd.go ?_; intro K Q hK hQ; simp only [dk, if_false]; subst hK hQ) | refine Jr.go ?_) | refine sd ?_)
       exact key25
    by_cases hsk : t.sk < (h.length : Int)
    ·have e : fstP t h.length = t.sk.toNat := if_pos hsk
     have e2 : ((t.sk.toNat : Nat) : Int) = t.sk := by omega
     rw [e, e2] at key12
     repeat (first | (with_reducible first | refine Ju.go ?_ | (refine Hd.go ?_; intro K Q hK hQ; simp only [hsk, if_true, List.getD_cons_succ, List.getD_cons_zero, nod_cptr, e_fac, Nat.reduceAdd, lv_cons, List.length_nil, Nat.zero_add, Nat.reduceLeDiff, true_and, e_ldc]; subst hK hQ) | refine Jr.go ?_) | refine sd ?_)
     exact key12
    ·have e : fstP t h.length = 0 := if_neg hsk
     rw [e] at key12
     repeat (first | (with_reducible first | refine Ju.go ?_ | (refine Hd.go ?_; intro K Q hK hQ; simp only [hsk, if_false]; subst hK hQ) | refine Jr.go ?_) | refine sd ?_)
     exact key12
 have e9 : (decide (60 < (h.length : Int))) = !decide (h.length ≤ 60) := by rw [← decide_not, decide_eq_decide]; omega
 have eo : okSt t = (inB t.sk 0 2 && inB t.pl 0 5 && (decide (t.sp = 0) || inB t.sp 2 3)) := rfl
 cases hc : (!inB t.sk 0 2 || !inB t.pl 0 5)
 ·have hc2 : (inB t.sk 0 2 && inB t.pl 0 5) = true := by
   rw [← Bool.not_and] at hc
   simpa using hc
  rw [eo, hc2, Bool.true_and] at key
  by_cases hs : t.sp = 0
  ·have d1 : decide (t.sp = 0) = true := decide_eq_true hs
   rw [d1, Bool.true_or, Bool.true_and, ← e9] at key
   repeat (first | (with_reducible first | refine Ju.go ?_ | (refine Hd.go ?_; intro K Q hK hQ; simp only [cond_false, hs, decide_true, Bool.not_true, nod_imm, nod_arr, nd_no, Try.underlying3, e_lenA, List.length_map, e_gtr, e_gF, j_one]; subst hK hQ) | refine Jr.go ?_) | refine sd ?_)
   exact key
  ·have d1 : decide (t.sp = 0) = false := decide_eq_false hs
   rw [d1, Bool.false_or, Bool.not_and, ← e9] at key
   repeat (first | (with_reducible first | refine Ju.go ?_ | (refine Hd.go ?_; intro K Q hK hQ; simp only [cond_false, d1, Bool.not_false, cond_true]; subst hK hQ) | refine Jr.go ?_) | refine sd ?_)
   refine call_of (c55 _ _ _ _) ?_
   repeat (first | (with_reducible first | refine Ju.go ?_ | (refine Hd.go ?_; intro K Q hK hQ; simp only [nod_imm, e_not, nod_arr, nd_no, Try.underlying3, e_lenA, List.length_map, e_gtr, e_gF, j_or', j_one]; subst hK hQ) | refine Jr.go ?_) | refine sd ?_)
   exact key
 ·have hc2 : (inB t.sk 0 2 && inB t.pl 0 5) = false := by
   rw [← Bool.not_and] at hc
   exact (Bool.not_eq_true' _).mp hc
  rw [eo, hc2, Bool.false_and, Bool.false_and] at key
  repeat (first | (with_reducible first | refine Ju.go ?_ | (refine Hd.go ?_; intro K Q hK hQ; simp only [cond_true, nod_imm, nod_arr, nd_no, Try.underlying3, e_lenA, List.length_map, e_gtr, e_gF, j_one]; subst hK hQ) | refine Jr.go ?_) | refine sd ?_)
  exact key
end Go.Proofs.Ytgicpobploinhaa
set_option maxHeartbeats 4000000
namespace Go.Proofs.Ytgicpobploinhaa
open Go Go.Ab Go.Proofs
def an15 : An := { imm := [], jn := [(3, [1, 2, 3, 4, 5]), (5, [1, 2, 3, 4, 5, 7, 8, 9]), (7, [1, 2, 3, 4, 5, 7, 8, 9, 10, 11, 12, 13]), (8, [1, 3, 4, 7, 8, 10, 12, 78])], lp := [], loud := [], ord := [] }
def vc15 (C : Cb) (H : Hp) (R : List V → Hp → Prop) : Prop :=
 C.callE 48 [] H fun v1 H2 =>
 C.aBS 1 8 (I 0) [(0, (I 1)), (1, (I 3)), (2, (I 4)), (3, (I 2)), (4, (I 1)), (5, (I 3)), (6, (I 5)), (7, (I 1))] fun v3 =>
 C.callE 16 [v1.nod, v3.nod] H2 fun v4 H5 =>
 C.aExt 0 v4.nod.nod fun v6 =>
 C.aExt 1 v4.nod.nod fun v7 =>
 Jn (fun l8 H9 =>
 C.aBd [(I 0), (I 0), (I 0), (B false), (B false)] [(0, 1, (I 3))] fun v11 =>
 C.aBd [(I 0), (I 0), (I 0), (B false), (B false)] [(0, 1, (I 3)), (2, 1, (I 2))] fun v12 =>
 C.aBd [(I 0), (I 0), (I 0), (B false), (B false)] [(0, 1, (I 3))] fun v13 =>
 C.aBd [(I 0), (I 0), (I 0), (B false), (B false)] [(0, 1, (I 3))] fun v14 =>
 C.aBS 5 4 (V.agg [(I 0), (I 0), (I 0), (B false), (B false)]) [(0, v11.nod), (1, v12.nod), (2, v13.nod), (3, v14.nod)] fun v15 =>
 Jn (fun l16 H17 =>
 C.aBd [(I 0), (I 0), (B false), (B false), (I 0), (I 0)] [(0, 1, (I 100)), (1, 1, (I 40)), (2, 1, (B true))] fun v19 =>
 C.aBd [(I 0), (I 0), (I 0)] [(0, 1, (I 1)), (2, 1, (I 150))] fun v20 =>
 C.aBd [(I 0), (I 0), (I 0)] [(0, 1, (I 4)), (2, 1, (I 200))] fun v21 =>
 C.aBS 3 2 (V.agg [(I 0), (I 0), (I 0)]) [(0, v20.nod), (1, v21.nod)] fun v22 =>
 C.callE 31 [v19.nod, v22.nod] H17 fun v23 H24 =>
 C.aExt 0 v23.nod.nod fun v25 =>
 C.aExt 1 v23.nod.nod fun v26 =>
 Jn (fun l27 H28 =>
 Jn (fun l30 H31 =>
 aCond (l30.getD 7 .junk).nod (
 R [(B false)] H31) (
 C.aIx 3 (l30.getD 0 .junk).nod.nod (I 0) fun v33 =>
 C.aLd 3 true false v33.nod H31 fun v34 H35 =>
 C.aBd [(I 0), (I 0), (I 0)] [(0, 1, (I 0)), (1, 1, (I 2)), (2, 1, (I 4))] fun v36 =>
 C.aEqS 35 .eql v34.nod v36.nod fun v37 =>
 Jv (fun v38 H39 =>
 Jv (fun v46 H47 =>
 Jv (fun v50 H51 =>
 Jv (fun v56 H57 =>
 Jv (fun v62 H63 =>
 Jv (fun v68 H69 =>
 Jv (fun v72 H73 =>
 R [v72] H73)
 (fun R74 =>
 aG v68.nod true (
 C.aBS 1 2 (I 0) [(0, (I 130)), (1, (I 110))] fun v75 =>
 C.callE 25 [(l30.getD 6 .junk).nod.nod, v75.nod] H69 fun v76 H77 =>
 R74 v76.nod H77) (
 R74 (B false) H69)))
 (fun R70 =>
 aG v62.nod true (
 C.aBin (Try.prog.underlying 3) .eql (l30.getD 5 .junk).nod.nod (I 130) fun v71 =>
 R70 v71.nod H63) (
 R70 (B false) H63)))
 (fun R64 =>
 aG v56.nod true (
 C.aBS 1 2 (I 0) [(0, (I 0)), (1, (I 0))] fun v65 =>
 C.callE 25 [(l30.getD 4 .junk).nod.nod, v65.nod] H57 fun v66 H67 =>
 R64 v66.nod H67) (
 R64 (B false) H57)))
 (fun R58 =>
 aG v50.nod true (
 C.aBS 1 3 (I 0) [(0, (I 0)), (1, (I 1)), (2, (I 0))] fun v59 =>
 C.callE 25 [(l30.getD 3 .junk).nod.nod, v59.nod] H51 fun v60 H61 =>
 R58 v60.nod H61) (
 R58 (B false) H51)))
 (fun R52 =>
 aG v46.nod true (
 C.aBS 1 1 (I 0) [(0, (I 0))] fun v53 =>
 C.callE 25 [(l30.getD 2 .junk).nod.nod, v53.nod] H47 fun v54 H55 =>
 R52 v54.nod H55) (
 R52 (B false) H47)))
 (fun R48 =>
 aG v38.nod true (
 C.aBin (Try.prog.underlying 3) .eql (l30.getD 1 .junk).nod.nod (I 2) fun v49 =>
 R48 v49.nod H39) (
 R48 (B false) H39)))
 (fun R40 =>
 aG v37.nod true (
 C.aIx 3 (l30.getD 0 .junk).nod.nod (I 1) fun v41 =>
 C.aLd 3 true false v41.nod H35 fun v42 H43 =>
 C.aBd [(I 0), (I 0), (I 0)] [(0, 1, (I 4)), (1, 1, (I 6)), (2, 1, (I 8))] fun v44 =>
 C.aEqS 35 .eql v42.nod v44.nod fun v45 =>
 R40 v45.nod H43) (
 R40 (B false) H35))))
 (fun R32 =>
 C.aBin (Try.prog.underlying 28) .neq (l27.getD 1 .junk).nod.nod (I 0) fun v78 =>
 Jv (fun v79 H80 =>
 Jv (fun v83 H84 =>
 Jv (fun v87 H88 =>
 Jv (fun v91 H92 =>
 Jv (fun v95 H96 =>
 R32 [(l27.getD 0 .junk), (l27.getD 2 .junk), (l27.getD 3 .junk), (l27.getD 5 .junk), (l27.getD 6 .junk), (l27.getD 8 .junk), (l27.getD 10 .junk), v95] H96)
 (fun R97 =>
 aG v91.nod false (
 C.aLen (l27.getD 0 .junk).nod.nod fun v98 =>
 C.aBin (Try.prog.underlying 3) .neq v98.nod (I 2) fun v99 =>
 R97 v99.nod H92) (
 R97 (B true) H92)))
 (fun R93 =>
 aG v87.nod false (
 C.aBin (Try.prog.underlying 28) .neq (l27.getD 11 .junk).nod.nod (I 0) fun v94 =>
 R93 v94.nod H88) (
 R93 (B true) H88)))
 (fun R89 =>
 aG v83.nod false (
 C.aBin (Try.prog.underlying 28) .neq (l27.getD 9 .junk).nod.nod (I 0) fun v90 =>
 R89 v90.nod H84) (
 R89 (B true) H84)))
 (fun R85 =>
 aG v79.nod false (
 C.aBin (Try.prog.underlying 28) .neq (l27.getD 7 .junk).nod.nod (I 0) fun v86 =>
 R85 v86.nod H80) (
 R85 (B true) H80)))
 (fun R81 =>
 aG v78.nod false (
 C.aBin (Try.prog.underlying 28) .neq (l27.getD 4 .junk).nod.nod (I 0) fun v82 =>
 R81 v82.nod H28) (
 R81 (B true) H28))))
 (fun R29 =>
 C.aBS 1 2 (I 0) [(0, (I 100)), (1, (I 100))] fun v100 =>
 C.aBS 1 2 (I 0) [(0, (I 0)), (1, (I 0))] fun v101 =>
 C.aBS 1 2 (I 0) [(0, (I 1)), (1, (I 3))] fun v102 =>
 C.callE 35 [v100.nod, v101.nod, v102.nod, (I 240)] H24 fun v103 H104 =>
 C.aExt 0 v103.nod.nod fun v105 =>
 C.aExt 1 v103.nod.nod fun v106 =>
 R29 [(l16.getD 0 .junk), (l16.getD 1 .junk), (l16.getD 2 .junk), (l16.getD 3 .junk), (l16.getD 4 .junk), (l16.getD 5 .junk), (l16.getD 6 .junk), (l16.getD 7 .junk), v25, v26, v105, v106] H104))
 (fun R18 =>
 C.aBd [(I 0), (I 0), (I 0)] [(0, 1, (I 1)), (1, 1, (I 1)), (2, 1, (I 6))] fun v107 =>
 C.aBd [(I 0), (I 0), (I 0)] [(0, 1, (I 3)), (1, 1, (I 1)), (2, 1, (I 1))] fun v108 =>
 C.aBS 3 2 (V.agg [(I 0), (I 0), (I 0)]) [(0, v107.nod), (1, v108.nod)] fun v109 =>
 C.callE 26 [v15.nod.nod, v109.nod] H9 fun v110 H111 =>
 C.aExt 0 v110.nod.nod fun v112 =>
 C.aExt 1 v110.nod.nod fun v113 =>
 C.aExt 2 v110.nod.nod fun v114 =>
 R18 [(l8.getD 0 .junk), (l8.getD 1 .junk), (l8.getD 2 .junk), (l8.getD 3 .junk), (l8.getD 4 .junk), v112, v113, v114] H111))
 (fun R10 =>
 C.aBd [(B false), (I 0), (I 0), (B false), (I 0)] [(0, 1, (B true)), (1, 1, (I 1)), (3, 1, (B true)), (4, 1, (I 2))] fun v115 =>
 C.aBS 1 5 (B false) [(0, (B true)), (1, (B false)), (2, (B true)), (3, (B false)), (4, (B false))] fun v116 =>
 C.callE 22 [v115.nod, v116.nod] H5 fun v117 H118 =>
 C.aExt 0 v117.nod.nod fun v119 =>
 C.aExt 1 v117.nod.nod fun v120 =>
 C.aExt 2 v117.nod.nod fun v121 =>
 R10 [v6, v7, v119, v120, v121] H118)
theorem wf15 : (Nat.ble 0 Try.f15.ntmps && wfC an15 Try.f15.ntmps (Try.f15.body.getD .skip)) = true := by kernel_rfl
theorem tie15 (C : Cb) (H : Hp) (R : List V → Hp → Prop) : wpG Try.prog C an15 (Try.f15.body.getD .skip) (argF []) H (retG Try.prog C Try.f15 R) (fun _ _ _ => False) (retG Try.prog C Try.f15 R) = vc15 C H R := by kernel_rfl
theorem mk15 {H : Hp} {v : V} {H1 : Hp} (hd : v.Nd) (hn : H.length ≤ H1.length) (hb : H1 = H ∨ ∀ (b : Nat) (blk : Blk), H1[b]? = some blk → H[b]? = some blk ∨ BelB H1.length blk) (h : vc15 (real Try.prog) H (retF v H1)) : Ret Try.prog 15 [] H v H1 :=
 ret_mk (an := an15) hm Try.call15 Try.func15 rfl wf15 hd hn hb (Eq.mpr (tie15 (real Try.prog) H (retF v H1)) h)
end Go.Proofs.Ytgicpobploinhaa
