import Derived.Test.YtehjfjdknllmhaaAb23
import Derived.Test.YtehjfjdknllmhaaProg
set_option linter.unusedVariables false
set_option maxRecDepth 20000
set_option maxHeartbeats 4000000
namespace Go.Proofs.Ytehjfjdknllmhaa
open Go Go.Ab Go.Proofs
theorem hm : Try.prog.follows .mixedOrders = true := by kernel_rfl
/- declaim/declaimlaw07.known -/
def an18 : An := { imm := [], jn := [(3, [1, 2, 3, 4, 5]), (4, [1, 2, 3, 4, 5, 6, 7, 8]), (6, [1, 2, 3, 4, 5, 6, 7, 8, 9, 10, 11, 12]), (8, [4, 6, 7, 9, 11, 13, 87])], lp := [], loud := [], ord := [] }
def vc18 (C : Cb) (H : Hp) (R : List V → Hp → Prop) : Prop :=
 C.aBS 1 3 (I 0) [(0, (I 9)), (1, (I 1)), (2, (I 2))] fun (v1 : V) =>
 C.aBS 1 3 (I 0) [(0, (I 0)), (1, (I 1)), (2, (I 2))] fun (v2 : V) =>
 C.call 38 [v1.nod, v2.nod, (I 2), (I 5)] H fun (v3 : V) (H4 : Hp) =>
 C.aExt 0 v3.nod.nod fun (v5 : V) =>
 C.aExt 1 v3.nod.nod fun (v6 : V) =>
 C.aExt 2 v3.nod.nod fun (v7 : V) =>
 Jn (fun (l8 : List V) (H9 : Hp) =>
 Jn (fun (l11 : List V) (H12 : Hp) =>
 C.call 56 [] H12 fun (v14 : V) (H15 : Hp) =>
 C.call 27 [v14.nod, (I 2), (I 1)] H15 fun (v16 : V) (H17 : Hp) =>
 C.aExt 0 v16.nod.nod fun (v18 : V) =>
 C.aExt 1 v16.nod.nod fun (v19 : V) =>
 C.aBx false 2 (V.agg [(V.arr [] .full), (V.arr [] .full)]) H17 fun (v20 : V) (H21 : Hp) =>
 C.aSt 2 v20.nod v18 H21 fun (v22 : V) (H23 : Hp) =>
 Jn (fun (l24 : List V) (H25 : Hp) =>
 C.aBS 1 1 (I 0) [(0, (I 30000))] fun (v27 : V) =>
 C.call 52 [v27.nod, (I 2), (I 1)] H25 fun (v28 : V) (H29 : Hp) =>
 C.aExt 0 v28.nod.nod fun (v30 : V) =>
 C.aExt 1 v28.nod.nod fun (v31 : V) =>
 C.aExt 2 v28.nod.nod fun (v32 : V) =>
 Jn (fun (l33 : List V) (H34 : Hp) =>
 aCond (l33.getD 6 .junk).nod (
 R [(B false)] H34) (
 C.aBS 1 3 (I 0) [(0, (I 2)), (1, (I 4)), (2, (I 6))] fun (v36 : V) =>
 C.call 21 [(l33.getD 0 .junk).nod.nod, v36.nod] H34 fun (v37 : V) (H38 : Hp) =>
 Jv (fun (v39 : V) (H40 : Hp) =>
 Jv (fun (v45 : V) (H46 : Hp) =>
 Jv (fun (v51 : V) (H52 : Hp) =>
 Jv (fun (v60 : V) (H61 : Hp) =>
 Jv (fun (v69 : V) (H70 : Hp) =>
 Jv (fun (v79 : V) (H80 : Hp) =>
 R [v79] H80)
 (fun (R81 : V → Hp → Prop) =>
 aG v69.nod true (
 C.aBS 1 1 (I 0) [(0, (I 32767))] fun (v82 : V) =>
 C.call 21 [(l33.getD 5 .junk).nod.nod, v82.nod] H70 fun (v83 : V) (H84 : Hp) =>
 R81 v83.nod H84) (
 R81 (B false) H70)))
 (fun (R71 : V → Hp → Prop) =>
 aG v60.nod true (
 C.aLd 2 true false (l33.getD 4 .junk).nod H61 fun (v72 : V) (H73 : Hp) =>
 C.aBS 1 4 (I 0) [(0, (I 5)), (1, (I 1)), (2, (I 3)), (3, (I 6))] fun (v74 : V) =>
 C.aBS 1 3 (I 0) [(0, (I 1)), (1, (I 2)), (2, (I 3))] fun (v75 : V) =>
 C.aBd [(V.arr [] .full), (V.arr [] .full)] [(0, 1, v74.nod), (1, 1, v75.nod.nod)] fun (v76 : V) =>
 C.call 31 [v72.nod, (own0 v76 v74).nod] H73 fun (v77 : V) (H78 : Hp) =>
 R71 v77.nod H78) (
 R71 (B false) H61)))
 (fun (R62 : V → Hp → Prop) =>
 aG v51.nod true (
 C.aFA 1 1 false (l33.getD 3 .junk).nod fun (v63 : V) =>
 C.aLd 1 false false v63.nod H52 fun (v64 : V) (H65 : Hp) =>
 C.aBS 1 5 (I 0) [(0, (I 1)), (1, (I 3)), (2, (I 5)), (3, (I 7)), (4, (I 9))] fun (v66 : V) =>
 C.call 21 [v64.nod, v66.nod] H65 fun (v67 : V) (H68 : Hp) =>
 R62 v67.nod H68) (
 R62 (B false) H52)))
 (fun (R53 : V → Hp → Prop) =>
 aG v45.nod true (
 C.aFA 0 1 false (l33.getD 3 .junk).nod fun (v54 : V) =>
 C.aLd 1 false false v54.nod H46 fun (v55 : V) (H56 : Hp) =>
 C.aBS 1 10 (I 0) [(0, (I 5)), (1, (I 1)), (2, (I 2)), (3, (I 1)), (4, (I 2)), (5, (I 3)), (6, (I 4)), (7, (I 3)), (8, (I 4)), (9, (I 6))] fun (v57 : V) =>
 C.call 21 [v55.nod, v57.nod] H56 fun (v58 : V) (H59 : Hp) =>
 R53 v58.nod H59) (
 R53 (B false) H46)))
 (fun (R47 : V → Hp → Prop) =>
 aG v39.nod true (
 C.aBS 1 3 (I 0) [(0, (I 0)), (1, (I 1)), (2, (I 2))] fun (v48 : V) =>
 C.call 21 [(l33.getD 2 .junk).nod.nod, v48.nod] H40 fun (v49 : V) (H50 : Hp) =>
 R47 v49.nod H50) (
 R47 (B false) H40)))
 (fun (R41 : V → Hp → Prop) =>
 aG v37.nod true (
 C.aBS 1 4 (I 0) [(0, (I 1)), (1, (I 2)), (2, (I 3)), (3, (I 4))] fun (v42 : V) =>
 C.call 21 [(l33.getD 1 .junk).nod.nod, v42.nod] H38 fun (v43 : V) (H44 : Hp) =>
 R41 v43.nod H44) (
 R41 (B false) H38))))
 (fun (R35 : List V → Hp → Prop) =>
 C.aBin (Try.prog.underlying 25) .neq (l24.getD 2 .junk).nod.nod (I 0) fun (v85 : V) =>
 Jv (fun (v86 : V) (H87 : Hp) =>
 Jv (fun (v90 : V) (H91 : Hp) =>
 Jv (fun (v94 : V) (H95 : Hp) =>
 Jv (fun (v98 : V) (H99 : Hp) =>
 Jv (fun (v102 : V) (H103 : Hp) =>
 Jv (fun (v106 : V) (H107 : Hp) =>
 Jv (fun (v110 : V) (H111 : Hp) =>
 Jv (fun (v114 : V) (H115 : Hp) =>
 R35 [(l24.getD 3 .junk), (l24.getD 5 .junk), (l24.getD 6 .junk), (l24.getD 8 .junk), (l24.getD 10 .junk), v30, v114] H115)
 (fun (R116 : V → Hp → Prop) =>
 aG v110.nod false (
 C.aBin (Try.prog.underlying 3) .neq v31.nod.nod (I 1) fun (v117 : V) =>
 R116 v117.nod H111) (
 R116 (B true) H111)))
 (fun (R112 : V → Hp → Prop) =>
 aG v106.nod false (
 C.aBin (Try.prog.underlying 3) .neq (l24.getD 1 .junk).nod.nod (I 0) fun (v113 : V) =>
 R112 v113.nod H107) (
 R112 (B true) H107)))
 (fun (R108 : V → Hp → Prop) =>
 aG v102.nod false (
 C.aBin (Try.prog.underlying 3) .neq (l24.getD 0 .junk).nod.nod (I 1) fun (v109 : V) =>
 R108 v109.nod H103) (
 R108 (B true) H103)))
 (fun (R104 : V → Hp → Prop) =>
 aG v98.nod false (
 C.aBin (Try.prog.underlying 25) .neq v32.nod.nod (I 0) fun (v105 : V) =>
 R104 v105.nod H99) (
 R104 (B true) H99)))
 (fun (R100 : V → Hp → Prop) =>
 aG v94.nod false (
 C.aBin (Try.prog.underlying 25) .neq (l24.getD 11 .junk).nod.nod (I 0) fun (v101 : V) =>
 R100 v101.nod H95) (
 R100 (B true) H95)))
 (fun (R96 : V → Hp → Prop) =>
 aG v90.nod false (
 C.aBin (Try.prog.underlying 25) .neq (l24.getD 9 .junk).nod.nod (I 0) fun (v97 : V) =>
 R96 v97.nod H91) (
 R96 (B true) H91)))
 (fun (R92 : V → Hp → Prop) =>
 aG v86.nod false (
 C.aBin (Try.prog.underlying 25) .neq (l24.getD 7 .junk).nod.nod (I 0) fun (v93 : V) =>
 R92 v93.nod H87) (
 R92 (B true) H87)))
 (fun (R88 : V → Hp → Prop) =>
 aG v85.nod false (
 C.aBin (Try.prog.underlying 25) .neq (l24.getD 4 .junk).nod.nod (I 0) fun (v89 : V) =>
 R88 v89.nod H29) (
 R88 (B true) H29))))
 (fun (R26 : List V → Hp → Prop) =>
 C.call 56 [] H23 fun (v118 : V) (H119 : Hp) =>
 C.call 28 [v118.nod, (I 2), (I 1)] H119 fun (v120 : V) (H121 : Hp) =>
 C.aExt 0 v120.nod.nod fun (v122 : V) =>
 C.aExt 1 v120.nod.nod fun (v123 : V) =>
 C.aBx false 2 (V.agg [(V.arr [] .full), (V.arr [] .full)]) H121 fun (v124 : V) (H125 : Hp) =>
 C.aSt 2 v124.nod v122 H125 fun (v126 : V) (H127 : Hp) =>
 R26 [(l11.getD 0 .junk), (l11.getD 1 .junk), (l11.getD 2 .junk), (l11.getD 3 .junk), (l11.getD 4 .junk), (l11.getD 5 .junk), (l11.getD 6 .junk), (l11.getD 7 .junk), v20, v19, v124, v123] H127))
 (fun (R13 : List V → Hp → Prop) =>
 C.aBS 1 2 (I 0) [(0, (I 1)), (1, (I 2))] fun (v128 : V) =>
 C.aBS 1 2 (I 0) [(0, (I 2)), (1, (I 3))] fun (v129 : V) =>
 C.aBS 1 2 (I 0) [(0, (I 3)), (1, (I 4))] fun (v130 : V) =>
 C.aBS 1 3 (V.arr [] .full) [(0, v128.nod), (1, v129.nod), (2, v130.nod)] fun (v131 : V) =>
 C.call 24 [(I 1), (I 9), v131.nod] H9 fun (v132 : V) (H133 : Hp) =>
 C.aExt 0 v132.nod.nod fun (v134 : V) =>
 C.aExt 1 v132.nod.nod fun (v135 : V) =>
 C.aExt 2 v132.nod.nod fun (v136 : V) =>
 R13 [(l8.getD 0 .junk), (l8.getD 1 .junk), (l8.getD 2 .junk), (l8.getD 3 .junk), (l8.getD 4 .junk), v134, v135, v136] H133))
 (fun (R10 : List V → Hp → Prop) =>
 C.aBS 1 3 (I 0) [(0, (I 0)), (1, (I 0)), (2, (I 0))] fun (v137 : V) =>
 C.aBS 1 3 (I 0) [(0, (I 8)), (1, (I 8)), (2, (I 8))] fun (v138 : V) =>
 C.call 19 [v137.nod, v138.nod] H4 fun (v139 : V) (H140 : Hp) =>
 C.aExt 0 v139.nod.nod fun (v141 : V) =>
 C.aExt 1 v139.nod.nod fun (v142 : V) =>
 R10 [v5, v6, v7, v141, v142] H140)
theorem wf18 : (Nat.ble 0 Try.f18.ntmps && wfC an18 Try.f18.ntmps (Try.f18.body.getD .skip)) = true := by kernel_rfl
theorem tie18 (C : Cb) (H : Hp) (R : List V → Hp → Prop) : wpG Try.prog C an18 (Try.f18.body.getD .skip) (argF []) H (retG Try.prog C Try.f18 R) (fun _ _ _ => False) (retG Try.prog C Try.f18 R) = vc18 C H R := by kernel_rfl
theorem mk18 {H : Hp} {v : V} {H1 : Hp} (hd : v.Nd) (hn : H.length ≤ H1.length) (hb : H1 = H ∨ ∀ (b : Nat) (blk : Blk), H1[b]? = some blk → H[b]? = some blk ∨ BelB H1.length blk) (h : vc18 (real Try.prog) H (retF v H1)) : Ret Try.prog 18 [] H v H1 :=
  ret_mk (an := an18) hm Try.call18 Try.func18 rfl wf18 hd hn hb (Eq.mpr (tie18 (real Try.prog) H (retF v H1)) h)
theorem mko18 {H : Hp} {xs : List V} {H1 : Hp} (hn : H.length ≤ H1.length) (hb : H1 = H ∨ ∀ (b : Nat) (blk : Blk), H1[b]? = some blk → H[b]? = some blk ∨ BelB H1.length blk) (h : vc18 (real Try.prog) H (retO xs H1)) : Ret Try.prog 18 [] H (.arr xs .own) H1 :=
  ret_mko (an := an18) (t := 0) hm Try.call18 Try.func18 rfl wf18 rfl hn hb (Eq.mpr (tie18 (real Try.prog) H (retO xs H1)) h)

/- declaim/join.Fade -/
def an19 : An := { imm := [], jn := [(4, [0, 1]), (5, [0, 1, 23])], lp := [], loud := [], ord := [] }
def vc19 (C : Cb) (a0 a1 : V) (H : Hp) (R : List V → Hp → Prop) : Prop :=
 Jn (fun (l1 : List V) (H2 : Hp) =>
 Jn (fun (l4 : List V) (H5 : Hp) =>
 aCond (l4.getD 2 .junk).nod (
 R [(V.arr [] .full), (I 2)] H5) (
 C.call 58 [(l4.getD 0 .junk).nod.nod, (l4.getD 1 .junk).nod.nod] H5 fun (v7 : V) (H8 : Hp) =>
 R [v7, (I 0)] H8))
 (fun (R6 : List V → Hp → Prop) =>
 C.aLen (l1.getD 0 .junk).nod.nod fun (v9 : V) =>
 C.aLen (l1.getD 1 .junk).nod.nod fun (v10 : V) =>
 C.aBin (Try.prog.underlying 3) .neq v9.nod v10.nod fun (v11 : V) =>
 Jv (fun (v12 : V) (H13 : Hp) =>
 R6 [(l1.getD 0 .junk), (l1.getD 1 .junk), v12] H13)
 (fun (R14 : V → Hp → Prop) =>
 aG v11.nod false (
 C.aLen (l1.getD 0 .junk).nod.nod fun (v15 : V) =>
 C.aBin (Try.prog.underlying 3) .eql v15.nod (I 0) fun (v16 : V) =>
 R14 v16.nod H2) (
 R14 (B true) H2))))
 (fun (R3 : List V → Hp → Prop) =>
 C.aBS 1 2 (V.arr [] .full) [(0, a0.nod.nod), (1, a1.nod.nod)] fun (v17 : V) =>
 C.call 57 [v17.nod] H fun (v18 : V) (H19 : Hp) =>
 C.aBin (Try.prog.underlying 25) .neq v18.nod.nod (I 0) fun (v20 : V) =>
 aCond v20.nod (
 R [(V.arr [] .full), v18.nod] H19) (
 R3 [a0, a1] H19))
theorem wf19 : (Nat.ble 2 Try.f19.ntmps && wfC an19 Try.f19.ntmps (Try.f19.body.getD .skip)) = true := by kernel_rfl
theorem tie19 (C : Cb) (a0 a1 : V) (H : Hp) (R : List V → Hp → Prop) : wpG Try.prog C an19 (Try.f19.body.getD .skip) (argF [a0, a1]) H (retG Try.prog C Try.f19 R) (fun _ _ _ => False) (retG Try.prog C Try.f19 R) = vc19 C a0 a1 H R := by kernel_rfl
theorem mk19 (a0 a1 : V) {H : Hp} {v : V} {H1 : Hp} (hd : v.Nd) (hn : H.length ≤ H1.length) (hb : H1 = H ∨ ∀ (b : Nat) (blk : Blk), H1[b]? = some blk → H[b]? = some blk ∨ BelB H1.length blk) (h : vc19 (real Try.prog) a0 a1 H (retF v H1)) : Ret Try.prog 19 [a0, a1] H v H1 :=
  ret_mk (an := an19) hm Try.call19 Try.func19 rfl wf19 hd hn hb (Eq.mpr (tie19 (real Try.prog) a0 a1 H (retF v H1)) h)

/- declaim/declaimlaw07.wrong -/
def an20 : An := { imm := [], jn := [(2, [0, 1, 12]), (4, [20])], lp := [], loud := [], ord := [] }
def vc20 (C : Cb) (a0 a1 : V) (H : Hp) (R : List V → Hp → Prop) : Prop :=
 Jn (fun (l1 : List V) (H2 : Hp) =>
 aCond (l1.getD 2 .junk).nod (
 R [(I 4)] H2) (
 Jn (fun (l4 : List V) (H5 : Hp) =>
 aCond (l4.getD 0 .junk).nod (
 R [(I 2)] H5) (
 R [(I 0)] H5))
 (fun (R6 : List V → Hp → Prop) =>
 C.call 23 [(l1.getD 0 .junk).nod.nod] H2 fun (v7 : V) (H8 : Hp) =>
 C.aUn .not v7.nod fun (v9 : V) =>
 Jv (fun (v10 : V) (H11 : Hp) =>
 R6 [v10] H11)
 (fun (R12 : V → Hp → Prop) =>
 aG v9.nod false (
 C.call 23 [(l1.getD 1 .junk).nod.nod] H8 fun (v13 : V) (H14 : Hp) =>
 C.aUn .not v13.nod fun (v15 : V) =>
 R12 v15.nod H14) (
 R12 (B true) H8)))))
 (fun (R3 : List V → Hp → Prop) =>
 C.aLen a0.nod.nod fun (v16 : V) =>
 C.aBin (Try.prog.underlying 3) .gtr v16.nod (I 100000) fun (v17 : V) =>
 Jv (fun (v18 : V) (H19 : Hp) =>
 R3 [a0, a1, v18] H19)
 (fun (R20 : V → Hp → Prop) =>
 aG v17.nod false (
 C.aLen a1.nod.nod fun (v21 : V) =>
 C.aBin (Try.prog.underlying 3) .gtr v21.nod (I 100000) fun (v22 : V) =>
 R20 v22.nod H) (
 R20 (B true) H)))
theorem wf20 : (Nat.ble 2 Try.f20.ntmps && wfC an20 Try.f20.ntmps (Try.f20.body.getD .skip)) = true := by kernel_rfl
theorem tie20 (C : Cb) (a0 a1 : V) (H : Hp) (R : List V → Hp → Prop) : wpG Try.prog C an20 (Try.f20.body.getD .skip) (argF [a0, a1]) H (retG Try.prog C Try.f20 R) (fun _ _ _ => False) (retG Try.prog C Try.f20 R) = vc20 C a0 a1 H R := by kernel_rfl
theorem mk20 (a0 a1 : V) {H : Hp} {v : V} {H1 : Hp} (hd : v.Nd) (hn : H.length ≤ H1.length) (hb : H1 = H ∨ ∀ (b : Nat) (blk : Blk), H1[b]? = some blk → H[b]? = some blk ∨ BelB H1.length blk) (h : vc20 (real Try.prog) a0 a1 H (retF v H1)) : Ret Try.prog 20 [a0, a1] H v H1 :=
  ret_mk (an := an20) hm Try.call20 Try.func20 rfl wf20 hd hn hb (Eq.mpr (tie20 (real Try.prog) a0 a1 H (retF v H1)) h)
theorem mko20 (a0 a1 : V) {H : Hp} {xs : List V} {H1 : Hp} (hn : H.length ≤ H1.length) (hb : H1 = H ∨ ∀ (b : Nat) (blk : Blk), H1[b]? = some blk → H[b]? = some blk ∨ BelB H1.length blk) (h : vc20 (real Try.prog) a0 a1 H (retO xs H1)) : Ret Try.prog 20 [a0, a1] H (.arr xs .own) H1 :=
  ret_mko (an := an20) (t := 4) hm Try.call20 Try.func20 rfl wf20 rfl hn hb (Eq.mpr (tie20 (real Try.prog) a0 a1 H (retO xs H1)) h)

/- declaim/declaimref07.Same -/
def an21 : An := { imm := [], jn := [(7, [0, 1, 5, 25])], lp := [(4, [0, 1, 5])], loud := [], ord := [] }
def vc21 (C : Cb) (a0 a1 : V) (H : Hp) (R : List V → Hp → Prop) : Prop :=
 C.aLen a0.nod.nod fun (v1 : V) =>
 C.aLen a1.nod.nod fun (v2 : V) =>
 C.aBin (Try.prog.underlying 3) .neq v1.nod v2.nod fun (v3 : V) =>
 aCond v3.nod (
 R [(B false)] H) (
 LoopA (fun (l4 : List V) (H5 : Hp) (K6 : List V → Hp → Prop) =>
 C.aLen (l4.getD 0 .junk).nod.nod fun (v7 : V) =>
 C.aBin (Try.prog.underlying 3) .lss (l4.getD 2 .junk).nod.nod v7.nod fun (v8 : V) =>
 aCond v8.nod (
 Jn (fun (l9 : List V) (H10 : Hp) =>
 aCond (l9.getD 3 .junk).nod (
 R [(B false)] H10) (
 C.aBin (Try.prog.underlying 3) .add (l9.getD 2 .junk).nod.nod (I 1) fun (v12 : V) =>
 K6 [(l9.getD 0 .junk), (l9.getD 1 .junk), v12] H10))
 (fun (R11 : List V → Hp → Prop) =>
 C.aIx 1 (l4.getD 0 .junk).nod.nod (l4.getD 2 .junk).nod.nod fun (v13 : V) =>
 C.aLd 1 false false v13.nod H5 fun (v14 : V) (H15 : Hp) =>
 C.aIx 1 (l4.getD 1 .junk).nod.nod (l4.getD 2 .junk).nod.nod fun (v16 : V) =>
 C.aLd 1 false false v16.nod H15 fun (v17 : V) (H18 : Hp) =>
 C.aBin (Try.prog.underlying 3) .neq v14.nod v17.nod fun (v19 : V) =>
 R11 [(l4.getD 0 .junk), (l4.getD 1 .junk), (l4.getD 2 .junk), v19] H18)) (
 R [(B true)] H5))
 [a0, a1, (I 0)] H)
theorem wf21 : (Nat.ble 2 Try.f21.ntmps && wfC an21 Try.f21.ntmps (Try.f21.body.getD .skip)) = true := by kernel_rfl
theorem tie21 (C : Cb) (a0 a1 : V) (H : Hp) (R : List V → Hp → Prop) : wpG Try.prog C an21 (Try.f21.body.getD .skip) (argF [a0, a1]) H (retG Try.prog C Try.f21 R) (fun _ _ _ => False) (retG Try.prog C Try.f21 R) = vc21 C a0 a1 H R := by kernel_rfl
theorem mk21 (a0 a1 : V) {H : Hp} {v : V} {H1 : Hp} (hd : v.Nd) (hn : H.length ≤ H1.length) (hb : H1 = H ∨ ∀ (b : Nat) (blk : Blk), H1[b]? = some blk → H[b]? = some blk ∨ BelB H1.length blk) (h : vc21 (real Try.prog) a0 a1 H (retF v H1)) : Ret Try.prog 21 [a0, a1] H v H1 :=
  ret_mk (an := an21) hm Try.call21 Try.func21 rfl wf21 hd hn hb (Eq.mpr (tie21 (real Try.prog) a0 a1 H (retF v H1)) h)
theorem mko21 (a0 a1 : V) {H : Hp} {xs : List V} {H1 : Hp} (hn : H.length ≤ H1.length) (hb : H1 = H ∨ ∀ (b : Nat) (blk : Blk), H1[b]? = some blk → H[b]? = some blk ∨ BelB H1.length blk) (h : vc21 (real Try.prog) a0 a1 H (retO xs H1)) : Ret Try.prog 21 [a0, a1] H (.arr xs .own) H1 :=
  ret_mko (an := an21) (t := 4) hm Try.call21 Try.func21 rfl wf21 rfl hn hb (Eq.mpr (tie21 (real Try.prog) a0 a1 H (retO xs H1)) h)

/- declaim/declaimref07.Fade -/
def an22 : An := { imm := [], jn := [(5, [0, 1, 5, 6, 7])], lp := [(4, [0, 1, 5, 6, 7])], loud := [34], ord := [] }
def vc22 (C : Cb) (a0 a1 : V) (H : Hp) (R : List V → Hp → Prop) : Prop :=
 C.aLen a0.nod.nod fun (v1 : V) =>
 LoopA (fun (l2 : List V) (H3 : Hp) (K4 : List V → Hp → Prop) =>
 C.aBin (Try.prog.underlying 3) .lss (l2.getD 4 .junk).nod.nod (l2.getD 2 .junk).nod.nod fun (v5 : V) =>
 aCond v5.nod (
 Jn (fun (l6 : List V) (H7 : Hp) =>
 C.aBin (Try.prog.underlying 3) .add (l6.getD 4 .junk).nod.nod (I 1) fun (v9 : V) =>
 K4 [(l6.getD 0 .junk), (l6.getD 1 .junk), (l6.getD 2 .junk), (l6.getD 3 .junk), v9] H7)
 (fun (R8 : List V → Hp → Prop) =>
 C.aBin (Try.prog.underlying 3) .sub (l2.getD 2 .junk).nod.nod (l2.getD 4 .junk).nod.nod fun (v10 : V) =>
 C.aIx 1 (l2.getD 0 .junk).nod.nod (l2.getD 4 .junk).nod.nod fun (v11 : V) =>
 C.aLd 1 false false v11.nod H3 fun (v12 : V) (H13 : Hp) =>
 C.aBin (Try.prog.underlying 3) .mul v10.nod v12.nod fun (v14 : V) =>
 C.aBin (Try.prog.underlying 3) .add (l2.getD 4 .junk).nod.nod (I 1) fun (v15 : V) =>
 C.aIx 1 (l2.getD 1 .junk).nod.nod (l2.getD 4 .junk).nod.nod fun (v16 : V) =>
 C.aLd 1 false false v16.nod H13 fun (v17 : V) (H18 : Hp) =>
 C.aBin (Try.prog.underlying 3) .mul v15.nod v17.nod fun (v19 : V) =>
 C.aBin (Try.prog.underlying 3) .add v14.nod v19.nod fun (v20 : V) =>
 C.aBin (Try.prog.underlying 3) .add (l2.getD 2 .junk).nod.nod (I 1) fun (v21 : V) =>
 C.call 59 [v20.nod, v21.nod] H18 fun (v22 : V) (H23 : Hp) =>
 C.aBS 1 1 (I 0) [(0, v22.nod)] fun (v24 : V) =>
 C.aApp 1 8 (l2.getD 3 .junk) v24.nod fun (v25 : V) =>
 R8 [(l2.getD 0 .junk), (l2.getD 1 .junk), (l2.getD 2 .junk), v25, (l2.getD 4 .junk)] H23)) (
 R [(l2.getD 3 .junk).nod] H3))
 [a0, a1, v1, (V.arr [] .full), (I 0)] H
theorem wf22 : (Nat.ble 2 Try.f22.ntmps && wfC an22 Try.f22.ntmps (Try.f22.body.getD .skip)) = true := by kernel_rfl
theorem tie22 (C : Cb) (a0 a1 : V) (H : Hp) (R : List V → Hp → Prop) : wpG Try.prog C an22 (Try.f22.body.getD .skip) (argF [a0, a1]) H (retG Try.prog C Try.f22 R) (fun _ _ _ => False) (retG Try.prog C Try.f22 R) = vc22 C a0 a1 H R := by kernel_rfl
theorem mk22 (a0 a1 : V) {H : Hp} {v : V} {H1 : Hp} (hd : v.Nd) (hn : H.length ≤ H1.length) (hb : H1 = H ∨ ∀ (b : Nat) (blk : Blk), H1[b]? = some blk → H[b]? = some blk ∨ BelB H1.length blk) (h : vc22 (real Try.prog) a0 a1 H (retF v H1)) : Ret Try.prog 22 [a0, a1] H v H1 :=
  ret_mk (an := an22) hm Try.call22 Try.func22 rfl wf22 hd hn hb (Eq.mpr (tie22 (real Try.prog) a0 a1 H (retF v H1)) h)
theorem mko22 (a0 a1 : V) {H : Hp} {xs : List V} {H1 : Hp} (hn : H.length ≤ H1.length) (hb : H1 = H ∨ ∀ (b : Nat) (blk : Blk), H1[b]? = some blk → H[b]? = some blk ∨ BelB H1.length blk) (h : vc22 (real Try.prog) a0 a1 H (retO xs H1)) : Ret Try.prog 22 [a0, a1] H (.arr xs .own) H1 :=
  ret_mko (an := an22) (t := 4) hm Try.call22 Try.func22 rfl wf22 rfl hn hb (Eq.mpr (tie22 (real Try.prog) a0 a1 H (retO xs H1)) h)

/- declaim/declaimref07.Samples -/
def an23 : An := { imm := [], jn := [], lp := [(2, [0, 3])], loud := [], ord := [] }
def vc23 (C : Cb) (a0 : V) (H : Hp) (R : List V → Hp → Prop) : Prop :=
 LoopA (fun (l1 : List V) (H2 : Hp) (K3 : List V → Hp → Prop) =>
 C.aLen (l1.getD 0 .junk).nod.nod fun (v4 : V) =>
 C.aBin (Try.prog.underlying 3) .lss (l1.getD 1 .junk).nod.nod v4.nod fun (v5 : V) =>
 aCond v5.nod (
 C.aIx 1 (l1.getD 0 .junk).nod.nod (l1.getD 1 .junk).nod.nod fun (v6 : V) =>
 C.aLd 1 false false v6.nod H2 fun (v7 : V) (H8 : Hp) =>
 C.call 60 [v7.nod, (I (-32768)), (I 32767)] H8 fun (v9 : V) (H10 : Hp) =>
 C.aUn .not v9.nod fun (v11 : V) =>
 aCond v11.nod (
 R [(B false)] H10) (
 C.aBin (Try.prog.underlying 3) .add (l1.getD 1 .junk).nod.nod (I 1) fun (v12 : V) =>
 K3 [(l1.getD 0 .junk), v12] H10)) (
 R [(B true)] H2))
 [a0, (I 0)] H
theorem wf23 : (Nat.ble 1 Try.f23.ntmps && wfC an23 Try.f23.ntmps (Try.f23.body.getD .skip)) = true := by kernel_rfl
theorem tie23 (C : Cb) (a0 : V) (H : Hp) (R : List V → Hp → Prop) : wpG Try.prog C an23 (Try.f23.body.getD .skip) (argF [a0]) H (retG Try.prog C Try.f23 R) (fun _ _ _ => False) (retG Try.prog C Try.f23 R) = vc23 C a0 H R := by kernel_rfl
theorem mk23 (a0 : V) {H : Hp} {v : V} {H1 : Hp} (hd : v.Nd) (hn : H.length ≤ H1.length) (hb : H1 = H ∨ ∀ (b : Nat) (blk : Blk), H1[b]? = some blk → H[b]? = some blk ∨ BelB H1.length blk) (h : vc23 (real Try.prog) a0 H (retF v H1)) : Ret Try.prog 23 [a0] H v H1 :=
  ret_mk (an := an23) hm Try.call23 Try.func23 rfl wf23 hd hn hb (Eq.mpr (tie23 (real Try.prog) a0 H (retF v H1)) h)
theorem mko23 (a0 : V) {H : Hp} {xs : List V} {H1 : Hp} (hn : H.length ≤ H1.length) (hb : H1 = H ∨ ∀ (b : Nat) (blk : Blk), H1[b]? = some blk → H[b]? = some blk ∨ BelB H1.length blk) (h : vc23 (real Try.prog) a0 H (retO xs H1)) : Ret Try.prog 23 [a0] H (.arr xs .own) H1 :=
  ret_mko (an := an23) (t := 2) hm Try.call23 Try.func23 rfl wf23 rfl hn hb (Eq.mpr (tie23 (real Try.prog) a0 H (retO xs H1)) h)

/- declaim/join.Chain -/
def an24 : An := { imm := [], jn := [(4, [0, 1, 2, 9]), (7, [0, 1, 2, 35]), (10, [0, 1, 10, 11, 42, 43, 44]), (13, [0, 1, 10, 11, 13, 14, 16, 42, 43, 44]), (16, [0, 1, 10, 11, 13, 14, 42, 43, 44]), (18, [0, 1, 10, 11, 42, 43, 44, 75])], lp := [(10, [0, 1, 10, 11, 42, 43, 44])], loud := [], ord := [] }
def vc24 (C : Cb) (a0 a1 a2 : V) (H : Hp) (R : List V → Hp → Prop) : Prop :=
 C.aLen a2.nod.nod fun (v1 : V) =>
 C.aBin (Try.prog.underlying 3) .gtr v1.nod (I 500) fun (v2 : V) =>
 aCond v2.nod (
 R [(V.arr [] .full), (V.arr [] .full), (I 4)] H) (
 Jn (fun (l3 : List V) (H4 : Hp) =>
 C.aBin (Try.prog.underlying 25) .neq (l3.getD 3 .junk).nod.nod (I 0) fun (v6 : V) =>
 aCond v6.nod (
 R [(V.arr [] .full), (V.arr [] .full), (l3.getD 3 .junk).nod] H4) (
 Jn (fun (l7 : List V) (H8 : Hp) =>
 aCond (l7.getD 3 .junk).nod (
 R [(V.arr [] .full), (V.arr [] .full), (I 2)] H8) (
 C.aIx 1 (l7.getD 2 .junk).nod.nod (I 0) fun (v10 : V) =>
 C.aLd 1 false false v10.nod H8 fun (v11 : V) (H12 : Hp) =>
 C.call 61 [v11.nod] H12 fun (v13 : V) (H14 : Hp) =>
 C.aBS 1 1 (I 0) [(0, (I 0))] fun (v15 : V) =>
 Jn (fun (l16 : List V) (H17 : Hp) =>
 LoopA (fun (l19 : List V) (H20 : Hp) (K21 : List V → Hp → Prop) =>
 C.aBin (Try.prog.underlying 3) .lss (l19.getD 6 .junk).nod (l19.getD 5 .junk).nod fun (v22 : V) =>
 aCond v22.nod (
 C.aIx 1 (l19.getD 4 .junk).nod (l19.getD 6 .junk).nod fun (v23 : V) =>
 C.aLd 1 false false v23.nod H20 fun (v24 : V) (H25 : Hp) =>
 Jn (fun (l26 : List V) (H27 : Hp) =>
 C.aUn .not (l26.getD 6 .junk).nod.nod fun (v29 : V) =>
 aCond v29.nod (
 R [(V.arr [] .full), (V.arr [] .full), (I 5)] H27) (
 Jn (fun (l30 : List V) (H31 : Hp) =>
 C.call 63 [(l30.getD 2 .junk).nod.nod, (l30.getD 4 .junk).nod.nod, (l30.getD 0 .junk).nod.nod, (l30.getD 5 .junk).nod.nod] H31 fun (v33 : V) (H34 : Hp) =>
 C.aExt 0 v33.nod.nod fun (v35 : V) =>
 C.aExt 1 v33.nod.nod fun (v36 : V) =>
 Jn (fun (l37 : List V) (H38 : Hp) =>
 aCond (l37.getD 7 .junk).nod (
 R [(V.arr [] .full), (V.arr [] .full), (I 4)] H38) (
 C.aBin (Try.prog.underlying 3) .add (l37.getD 6 .junk).nod (I 1) fun (v40 : V) =>
 K21 [(l37.getD 0 .junk), (l37.getD 1 .junk), (l37.getD 2 .junk), (l37.getD 3 .junk), (l37.getD 4 .junk), (l37.getD 5 .junk), v40.nod] H38))
 (fun (R39 : List V → Hp → Prop) =>
 C.aUn .not v36.nod.nod fun (v41 : V) =>
 R39 [(l30.getD 0 .junk), (l30.getD 1 .junk), v35, (l30.getD 3 .junk), (l30.getD 6 .junk), (l30.getD 7 .junk), (l30.getD 8 .junk), v41] H34))
 (fun (R32 : List V → Hp → Prop) =>
 C.aLen (l26.getD 2 .junk).nod.nod fun (v42 : V) =>
 C.aBin (Try.prog.underlying 3) .sub v42.nod (l26.getD 0 .junk).nod.nod fun (v43 : V) =>
 C.aBS 1 1 (I 0) [(0, v43.nod)] fun (v44 : V) =>
 C.aApp 1 8 (l26.getD 3 .junk) v44.nod fun (v45 : V) =>
 R32 [(l26.getD 0 .junk), (l26.getD 1 .junk), (l26.getD 2 .junk), v45, (l26.getD 4 .junk), (l26.getD 5 .junk), (l26.getD 7 .junk), (l26.getD 8 .junk), (l26.getD 9 .junk)] H27)))
 (fun (R28 : List V → Hp → Prop) =>
 C.call 62 [(l19.getD 2 .junk).nod.nod, v24.nod.nod, (l19.getD 0 .junk).nod.nod, (l19.getD 1 .junk).nod.nod] H25 fun (v46 : V) (H47 : Hp) =>
 C.aExt 0 v46.nod.nod fun (v48 : V) =>
 C.aExt 1 v46.nod.nod fun (v49 : V) =>
 C.aExt 2 v46.nod.nod fun (v50 : V) =>
 R28 [(l19.getD 0 .junk), (l19.getD 1 .junk), (l19.getD 2 .junk), (l19.getD 3 .junk), v24, v48, v50, (l19.getD 4 .junk), (l19.getD 5 .junk), (l19.getD 6 .junk)] H47)) (
 R [(l19.getD 2 .junk).nod, (l19.getD 3 .junk).nod, (I 0)] H20))
 [(l16.getD 0 .junk), (l16.getD 1 .junk), (l16.getD 2 .junk), (l16.getD 3 .junk), (l16.getD 4 .junk), (l16.getD 5 .junk), (l16.getD 6 .junk)] H17)
 (fun (R18 : List V → Hp → Prop) =>
 C.aSlc 1 (l7.getD 2 .junk).nod.nod (some (I 1)) none none fun (v51 : V) =>
 C.aLen v51.nod fun (v52 : V) =>
 R18 [(l7.getD 0 .junk), (l7.getD 1 .junk), v13, v15, v51, v52, (I 0)] H14)))
 (fun (R9 : List V → Hp → Prop) =>
 C.aBin (Try.prog.underlying 3) .lss (l3.getD 0 .junk).nod.nod (I 1) fun (v53 : V) =>
 Jv (fun (v54 : V) (H55 : Hp) =>
 Jv (fun (v58 : V) (H59 : Hp) =>
 R9 [(l3.getD 0 .junk), (l3.getD 1 .junk), (l3.getD 2 .junk), v58] H59)
 (fun (R60 : V → Hp → Prop) =>
 aG v54.nod false (
 C.aLen (l3.getD 2 .junk).nod.nod fun (v61 : V) =>
 C.aBin (Try.prog.underlying 3) .eql v61.nod (I 0) fun (v62 : V) =>
 R60 v62.nod H55) (
 R60 (B true) H55)))
 (fun (R56 : V → Hp → Prop) =>
 aG v53.nod false (
 C.aBin (Try.prog.underlying 3) .lss (l3.getD 1 .junk).nod.nod (I 0) fun (v57 : V) =>
 R56 v57.nod H4) (
 R56 (B true) H4)))))
 (fun (R5 : List V → Hp → Prop) =>
 C.call 57 [a2.nod.nod] H fun (v63 : V) (H64 : Hp) =>
 R5 [a0, a1, a2, v63] H64))
theorem wf24 : (Nat.ble 3 Try.f24.ntmps && wfC an24 Try.f24.ntmps (Try.f24.body.getD .skip)) = true := by kernel_rfl
theorem tie24 (C : Cb) (a0 a1 a2 : V) (H : Hp) (R : List V → Hp → Prop) : wpG Try.prog C an24 (Try.f24.body.getD .skip) (argF [a0, a1, a2]) H (retG Try.prog C Try.f24 R) (fun _ _ _ => False) (retG Try.prog C Try.f24 R) = vc24 C a0 a1 a2 H R := by kernel_rfl
theorem mk24 (a0 a1 a2 : V) {H : Hp} {v : V} {H1 : Hp} (hd : v.Nd) (hn : H.length ≤ H1.length) (hb : H1 = H ∨ ∀ (b : Nat) (blk : Blk), H1[b]? = some blk → H[b]? = some blk ∨ BelB H1.length blk) (h : vc24 (real Try.prog) a0 a1 a2 H (retF v H1)) : Ret Try.prog 24 [a0, a1, a2] H v H1 :=
  ret_mk (an := an24) hm Try.call24 Try.func24 rfl wf24 hd hn hb (Eq.mpr (tie24 (real Try.prog) a0 a1 a2 H (retF v H1)) h)

/- declaim/declaimref07.Chain -/
def an25 : An := { imm := [], jn := [(7, [0, 1, 2, 9, 10, 11, 12, 13]), (10, [0, 1, 2, 9, 10, 11, 12]), (12, [0, 1, 2, 9, 10, 11, 55])], lp := [(4, [0, 1, 2, 9, 10, 11])], loud := [], ord := [] }
def vc25 (C : Cb) (a0 a1 a2 : V) (H : Hp) (R : List V → Hp → Prop) : Prop :=
 C.aIx 1 a2.nod.nod (I 0) fun (v1 : V) =>
 C.aLd 1 false false v1.nod H fun (v2 : V) (H3 : Hp) =>
 C.aApp 1 8 (V.arr [] .full) v2.nod fun (v4 : V) =>
 C.aBS 1 1 (I 0) [(0, (I 0))] fun (v5 : V) =>
 LoopA (fun (l6 : List V) (H7 : Hp) (K8 : List V → Hp → Prop) =>
 C.aLen (l6.getD 2 .junk).nod.nod fun (v9 : V) =>
 C.aBin (Try.prog.underlying 3) .lss (l6.getD 5 .junk).nod.nod v9.nod fun (v10 : V) =>
 aCond v10.nod (
 Jn (fun (l11 : List V) (H12 : Hp) =>
 C.aUn .not (l11.getD 7 .junk).nod.nod fun (v14 : V) =>
 aCond v14.nod (
 R [(V.arr [] .full), (V.arr [] .full), (I 5)] H12) (
 Jn (fun (l15 : List V) (H16 : Hp) =>
 C.aIx 1 (l15.getD 2 .junk).nod.nod (l15.getD 5 .junk).nod.nod fun (v18 : V) =>
 C.aLd 1 false false v18.nod H16 fun (v19 : V) (H20 : Hp) =>
 C.call 48 [(l15.getD 3 .junk).nod.nod, v19.nod, (l15.getD 0 .junk).nod.nod, (l15.getD 6 .junk).nod.nod] H20 fun (v21 : V) (H22 : Hp) =>
 Jn (fun (l23 : List V) (H24 : Hp) =>
 aCond (l23.getD 6 .junk).nod (
 R [(V.arr [] .full), (V.arr [] .full), (I 4)] H24) (
 C.aBin (Try.prog.underlying 3) .add (l23.getD 5 .junk).nod.nod (I 1) fun (v26 : V) =>
 K8 [(l23.getD 0 .junk), (l23.getD 1 .junk), (l23.getD 2 .junk), (l23.getD 3 .junk), (l23.getD 4 .junk), v26] H24))
 (fun (R25 : List V → Hp → Prop) =>
 C.aLen v21.nod.nod fun (v27 : V) =>
 C.aBin (Try.prog.underlying 3) .gtr v27.nod (I 100000) fun (v28 : V) =>
 R25 [(l15.getD 0 .junk), (l15.getD 1 .junk), (l15.getD 2 .junk), v21, (l15.getD 4 .junk), (l15.getD 5 .junk), v28] H22))
 (fun (R17 : List V → Hp → Prop) =>
 C.aLen (l11.getD 3 .junk).nod.nod fun (v29 : V) =>
 C.aBin (Try.prog.underlying 3) .sub v29.nod (l11.getD 0 .junk).nod.nod fun (v30 : V) =>
 C.aBS 1 1 (I 0) [(0, v30.nod)] fun (v31 : V) =>
 C.aApp 1 8 (l11.getD 4 .junk) v31.nod fun (v32 : V) =>
 R17 [(l11.getD 0 .junk), (l11.getD 1 .junk), (l11.getD 2 .junk), (l11.getD 3 .junk), v32, (l11.getD 5 .junk), (l11.getD 6 .junk)] H12)))
 (fun (R13 : List V → Hp → Prop) =>
 C.aIx 1 (l6.getD 2 .junk).nod.nod (l6.getD 5 .junk).nod.nod fun (v33 : V) =>
 C.aLd 1 false false v33.nod H7 fun (v34 : V) (H35 : Hp) =>
 C.call 39 [(l6.getD 3 .junk).nod.nod, v34.nod, (l6.getD 0 .junk).nod.nod, (l6.getD 1 .junk).nod.nod] H35 fun (v36 : V) (H37 : Hp) =>
 C.aExt 0 v36.nod.nod fun (v38 : V) =>
 C.aExt 1 v36.nod.nod fun (v39 : V) =>
 R13 [(l6.getD 0 .junk), (l6.getD 1 .junk), (l6.getD 2 .junk), (l6.getD 3 .junk), (l6.getD 4 .junk), (l6.getD 5 .junk), v38, v39] H37)) (
 R [(l6.getD 3 .junk).nod, (l6.getD 4 .junk).nod, (I 0)] H7))
 [a0, a1, a2, v4, v5, (I 1)] H3
theorem wf25 : (Nat.ble 3 Try.f25.ntmps && wfC an25 Try.f25.ntmps (Try.f25.body.getD .skip)) = true := by kernel_rfl
theorem tie25 (C : Cb) (a0 a1 a2 : V) (H : Hp) (R : List V → Hp → Prop) : wpG Try.prog C an25 (Try.f25.body.getD .skip) (argF [a0, a1, a2]) H (retG Try.prog C Try.f25 R) (fun _ _ _ => False) (retG Try.prog C Try.f25 R) = vc25 C a0 a1 a2 H R := by kernel_rfl
theorem mk25 (a0 a1 a2 : V) {H : Hp} {v : V} {H1 : Hp} (hd : v.Nd) (hn : H.length ≤ H1.length) (hb : H1 = H ∨ ∀ (b : Nat) (blk : Blk), H1[b]? = some blk → H[b]? = some blk ∨ BelB H1.length blk) (h : vc25 (real Try.prog) a0 a1 a2 H (retF v H1)) : Ret Try.prog 25 [a0, a1, a2] H v H1 :=
  ret_mk (an := an25) hm Try.call25 Try.func25 rfl wf25 hd hn hb (Eq.mpr (tie25 (real Try.prog) a0 a1 a2 H (retF v H1)) h)

/- declaim/declaimref07.Ratio -/
def an26 : An := { imm := [], jn := [], lp := [], loud := [], ord := [] }
def vc26 (C : Cb) (a0 a1 : V) (H : Hp) (R : List V → Hp → Prop) : Prop :=
 C.call 60 [a0.nod.nod, (I 1), (I 1000)] H fun (v1 : V) (H2 : Hp) =>
 Jv (fun (v3 : V) (H4 : Hp) =>
 Jv (fun (v8 : V) (H9 : Hp) =>
 Jv (fun (v13 : V) (H14 : Hp) =>
 R [v13] H14)
 (fun (R15 : V → Hp → Prop) =>
 aG v8.nod true (
 C.aBin (Try.prog.underlying 3) .mul (I 16) a0.nod.nod fun (v16 : V) =>
 C.aBin (Try.prog.underlying 3) .leq a1.nod.nod v16.nod fun (v17 : V) =>
 R15 v17.nod H9) (
 R15 (B false) H9)))
 (fun (R10 : V → Hp → Prop) =>
 aG v3.nod true (
 C.aBin (Try.prog.underlying 3) .mul (I 16) a1.nod.nod fun (v11 : V) =>
 C.aBin (Try.prog.underlying 3) .leq a0.nod.nod v11.nod fun (v12 : V) =>
 R10 v12.nod H4) (
 R10 (B false) H4)))
 (fun (R5 : V → Hp → Prop) =>
 aG v1.nod true (
 C.call 60 [a1.nod.nod, (I 1), (I 1000)] H2 fun (v6 : V) (H7 : Hp) =>
 R5 v6.nod H7) (
 R5 (B false) H2))
theorem wf26 : (Nat.ble 2 Try.f26.ntmps && wfC an26 Try.f26.ntmps (Try.f26.body.getD .skip)) = true := by kernel_rfl
theorem tie26 (C : Cb) (a0 a1 : V) (H : Hp) (R : List V → Hp → Prop) : wpG Try.prog C an26 (Try.f26.body.getD .skip) (argF [a0, a1]) H (retG Try.prog C Try.f26 R) (fun _ _ _ => False) (retG Try.prog C Try.f26 R) = vc26 C a0 a1 H R := by kernel_rfl
theorem mk26 (a0 a1 : V) {H : Hp} {v : V} {H1 : Hp} (hd : v.Nd) (hn : H.length ≤ H1.length) (hb : H1 = H ∨ ∀ (b : Nat) (blk : Blk), H1[b]? = some blk → H[b]? = some blk ∨ BelB H1.length blk) (h : vc26 (real Try.prog) a0 a1 H (retF v H1)) : Ret Try.prog 26 [a0, a1] H v H1 :=
  ret_mk (an := an26) hm Try.call26 Try.func26 rfl wf26 hd hn hb (Eq.mpr (tie26 (real Try.prog) a0 a1 H (retF v H1)) h)
theorem mko26 (a0 a1 : V) {H : Hp} {xs : List V} {H1 : Hp} (hn : H.length ≤ H1.length) (hb : H1 = H ∨ ∀ (b : Nat) (blk : Blk), H1[b]? = some blk → H[b]? = some blk ∨ BelB H1.length blk) (h : vc26 (real Try.prog) a0 a1 H (retO xs H1)) : Ret Try.prog 26 [a0, a1] H (.arr xs .own) H1 :=
  ret_mko (an := an26) (t := 4) hm Try.call26 Try.func26 rfl wf26 rfl hn hb (Eq.mpr (tie26 (real Try.prog) a0 a1 H (retO xs H1)) h)

/- declaim/join.Stretch -/
def an27 : An := { imm := [3], jn := [], lp := [], loud := [], ord := [] }
def vc27 (C : Cb) (a0 a1 a2 : V) (H : Hp) (R : List V → Hp → Prop) : Prop :=
 C.aBx true 2 a0.nod H fun (v1 : V) (H2 : Hp) =>
 C.aBx false 2 (V.agg [(V.arr [] .full), (V.arr [] .full)]) H2 fun (v3 : V) (H4 : Hp) =>
 C.aLd 2 true false v1.nod H4 fun (v5 : V) (H6 : Hp) =>
 C.aBd [(I 0), (I 0)] [(0, 1, a1.nod.nod), (1, 1, a2.nod.nod.nod)] fun (v7 : V) =>
 C.aBS 1 1 (V.imm .nilFunc) [(0, (V.fn 65 []))] fun (v8 : V) =>
 C.call 64 [v5.nod, (own0 v7 a1.nod).nod, v8.nod] H6 fun (v9 : V) (H10 : Hp) =>
 C.aExt 0 v9.nod fun (v11 : V) =>
 C.aExt 1 v9.nod fun (v12 : V) =>
 C.aSt 2 v3.nod v11 H10 fun (v13 : V) (H14 : Hp) =>
 C.aRes 2 true v3 H14 fun (v15 : V) =>
 R [v15, v12] H14
theorem wf27 : (Nat.ble 3 Try.f27.ntmps && wfC an27 Try.f27.ntmps (Try.f27.body.getD .skip)) = true := by kernel_rfl
theorem tie27 (C : Cb) (a0 a1 a2 : V) (H : Hp) (R : List V → Hp → Prop) : wpG Try.prog C an27 (Try.f27.body.getD .skip) (argF [a0, a1, a2]) H (retG Try.prog C Try.f27 R) (fun _ _ _ => False) (retG Try.prog C Try.f27 R) = vc27 C a0 a1 a2 H R := by kernel_rfl
theorem mk27 (a0 a1 a2 : V) {H : Hp} {v : V} {H1 : Hp} (hd : v.Nd) (hn : H.length ≤ H1.length) (hb : H1 = H ∨ ∀ (b : Nat) (blk : Blk), H1[b]? = some blk → H[b]? = some blk ∨ BelB H1.length blk) (h : vc27 (real Try.prog) a0 a1 a2 H (retF v H1)) : Ret Try.prog 27 [a0, a1, a2] H v H1 :=
  ret_mk (an := an27) hm Try.call27 Try.func27 rfl wf27 hd hn hb (Eq.mpr (tie27 (real Try.prog) a0 a1 a2 H (retF v H1)) h)

/- declaim/join.Transpose -/
def an28 : An := { imm := [3], jn := [], lp := [], loud := [], ord := [] }
def vc28 (C : Cb) (a0 a1 a2 : V) (H : Hp) (R : List V → Hp → Prop) : Prop :=
 C.aBx true 2 a0.nod H fun (v1 : V) (H2 : Hp) =>
 C.aBx false 2 (V.agg [(V.arr [] .full), (V.arr [] .full)]) H2 fun (v3 : V) (H4 : Hp) =>
 C.aLd 2 true false v1.nod H4 fun (v5 : V) (H6 : Hp) =>
 C.aBd [(I 0), (I 0)] [(0, 1, a1.nod.nod), (1, 1, a2.nod.nod.nod)] fun (v7 : V) =>
 C.aBS 1 1 (V.imm .nilFunc) [(0, (V.fn 66 []))] fun (v8 : V) =>
 C.call 64 [v5.nod, (own0 v7 a1.nod).nod, v8.nod] H6 fun (v9 : V) (H10 : Hp) =>
 C.aExt 0 v9.nod fun (v11 : V) =>
 C.aExt 1 v9.nod fun (v12 : V) =>
 C.aSt 2 v3.nod v11 H10 fun (v13 : V) (H14 : Hp) =>
 C.aRes 2 true v3 H14 fun (v15 : V) =>
 R [v15, v12] H14
theorem wf28 : (Nat.ble 3 Try.f28.ntmps && wfC an28 Try.f28.ntmps (Try.f28.body.getD .skip)) = true := by kernel_rfl
theorem tie28 (C : Cb) (a0 a1 a2 : V) (H : Hp) (R : List V → Hp → Prop) : wpG Try.prog C an28 (Try.f28.body.getD .skip) (argF [a0, a1, a2]) H (retG Try.prog C Try.f28 R) (fun _ _ _ => False) (retG Try.prog C Try.f28 R) = vc28 C a0 a1 a2 H R := by kernel_rfl
theorem mk28 (a0 a1 a2 : V) {H : Hp} {v : V} {H1 : Hp} (hd : v.Nd) (hn : H.length ≤ H1.length) (hb : H1 = H ∨ ∀ (b : Nat) (blk : Blk), H1[b]? = some blk → H[b]? = some blk ∨ BelB H1.length blk) (h : vc28 (real Try.prog) a0 a1 a2 H (retF v H1)) : Ret Try.prog 28 [a0, a1, a2] H v H1 :=
  ret_mk (an := an28) hm Try.call28 Try.func28 rfl wf28 hd hn hb (Eq.mpr (tie28 (real Try.prog) a0 a1 a2 H (retF v H1)) h)

/- declaim/declaimlaw07.none -/
def an29 : An := { imm := [1], jn := [], lp := [], loud := [], ord := [] }
def vc29 (C : Cb) (a0 : V) (H : Hp) (R : List V → Hp → Prop) : Prop :=
 C.aBx true 2 a0.nod H fun (v1 : V) (H2 : Hp) =>
 C.aFA 0 1 false v1.nod fun (v3 : V) =>
 C.aLd 1 false false v3.nod H2 fun (v4 : V) (H5 : Hp) =>
 C.aLen v4.nod fun (v6 : V) =>
 C.aFA 1 1 false v1.nod fun (v7 : V) =>
 C.aLd 1 false false v7.nod H5 fun (v8 : V) (H9 : Hp) =>
 C.aLen v8.nod fun (v10 : V) =>
 C.aBin (Try.prog.underlying 3) .add v6.nod v10.nod fun (v11 : V) =>
 C.aBin (Try.prog.underlying 3) .eql v11.nod (I 0) fun (v12 : V) =>
 R [v12] H9
theorem wf29 : (Nat.ble 1 Try.f29.ntmps && wfC an29 Try.f29.ntmps (Try.f29.body.getD .skip)) = true := by kernel_rfl
theorem tie29 (C : Cb) (a0 : V) (H : Hp) (R : List V → Hp → Prop) : wpG Try.prog C an29 (Try.f29.body.getD .skip) (argF [a0]) H (retG Try.prog C Try.f29 R) (fun _ _ _ => False) (retG Try.prog C Try.f29 R) = vc29 C a0 H R := by kernel_rfl
theorem mk29 (a0 : V) {H : Hp} {v : V} {H1 : Hp} (hd : v.Nd) (hn : H.length ≤ H1.length) (hb : H1 = H ∨ ∀ (b : Nat) (blk : Blk), H1[b]? = some blk → H[b]? = some blk ∨ BelB H1.length blk) (h : vc29 (real Try.prog) a0 H (retF v H1)) : Ret Try.prog 29 [a0] H v H1 :=
  ret_mk (an := an29) hm Try.call29 Try.func29 rfl wf29 hd hn hb (Eq.mpr (tie29 (real Try.prog) a0 H (retF v H1)) h)
theorem mko29 (a0 : V) {H : Hp} {xs : List V} {H1 : Hp} (hn : H.length ≤ H1.length) (hb : H1 = H ∨ ∀ (b : Nat) (blk : Blk), H1[b]? = some blk → H[b]? = some blk ∨ BelB H1.length blk) (h : vc29 (real Try.prog) a0 H (retO xs H1)) : Ret Try.prog 29 [a0] H (.arr xs .own) H1 :=
  ret_mko (an := an29) (t := 2) hm Try.call29 Try.func29 rfl wf29 rfl hn hb (Eq.mpr (tie29 (real Try.prog) a0 H (retO xs H1)) h)

/- declaim/declaimlaw07.short -/
def an17 : An := { imm := [], jn := [], lp := [], loud := [], ord := [] }
def vc17 (C : Cb) (a0 : V) (H : Hp) (R : List V → Hp → Prop) : Prop :=
 C.aLen a0.nod.nod fun (v1 : V) =>
 C.aBin (Try.prog.underlying 3) .leq v1.nod (I 400) fun (v2 : V) =>
 Jv (fun (v3 : V) (H4 : Hp) =>
 R [v3] H4)
 (fun (R5 : V → Hp → Prop) =>
 aG v2.nod false (
 C.aLen a0.nod.nod fun (v6 : V) =>
 C.aBin (Try.prog.underlying 3) .gtr v6.nod (I 100000) fun (v7 : V) =>
 aG v7.nod true (
 C.aLen a0.nod.nod fun (v8 : V) =>
 C.aBin (Try.prog.underlying 3) .lss v8.nod (I 110000) fun (v9 : V) =>
 R5 v9.nod.nod H) (
 R5 (B false) H)) (
 UD = UD ∧
 UD = UD ∧
 UD = UD ∧
 R5 (B true) H))
theorem wf17 : (Nat.ble 1 Try.f17.ntmps && wfC an17 Try.f17.ntmps (Try.f17.body.getD .skip)) = true := by kernel_rfl
theorem tie17 (C : Cb) (a0 : V) (H : Hp) (R : List V → Hp → Prop) : wpG Try.prog C an17 (Try.f17.body.getD .skip) (argF [a0]) H (retG Try.prog C Try.f17 R) (fun _ _ _ => False) (retG Try.prog C Try.f17 R) = vc17 C a0 H R := by kernel_rfl
theorem mk17 (a0 : V) {H : Hp} {v : V} {H1 : Hp} (hd : v.Nd) (hn : H.length ≤ H1.length) (hb : H1 = H ∨ ∀ (b : Nat) (blk : Blk), H1[b]? = some blk → H[b]? = some blk ∨ BelB H1.length blk) (h : vc17 (real Try.prog) a0 H (retF v H1)) : Ret Try.prog 17 [a0] H v H1 :=
  ret_mk (an := an17) hm Try.call17 Try.func17 rfl wf17 hd hn hb (Eq.mpr (tie17 (real Try.prog) a0 H (retF v H1)) h)
theorem mko17 (a0 : V) {H : Hp} {xs : List V} {H1 : Hp} (hn : H.length ≤ H1.length) (hb : H1 = H ∨ ∀ (b : Nat) (blk : Blk), H1[b]? = some blk → H[b]? = some blk ∨ BelB H1.length blk) (h : vc17 (real Try.prog) a0 H (retO xs H1)) : Ret Try.prog 17 [a0] H (.arr xs .own) H1 :=
  ret_mko (an := an17) (t := 2) hm Try.call17 Try.func17 rfl wf17 rfl hn hb (Eq.mpr (tie17 (real Try.prog) a0 H (retO xs H1)) h)

end Go.Proofs.Ytehjfjdknllmhaa
