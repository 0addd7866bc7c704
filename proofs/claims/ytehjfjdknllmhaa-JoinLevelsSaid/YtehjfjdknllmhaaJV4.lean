import Derived.Test.YtehjfjdknllmhaaAb23
import Derived.Test.YtehjfjdknllmhaaProg
import Derived.Test.YtehjfjdknllmhaaJV1
set_option linter.unusedVariables false
set_option maxRecDepth 20000
set_option maxHeartbeats 4000000
namespace Go.Proofs.Ytehjfjdknllmhaa
open Go Go.Ab Go.Proofs
/- declaim/join.changed -/
def an64 : An := { imm := [3, 4], jn := [(4, [2, 3, 4, 6, 7]), (16, [6, 9, 13, 14]), (23, [6, 9, 13, 14, 84]), (26, [6, 14, 18, 92, 93, 94]), (31, [6, 14, 18])], lp := [(11, [3, 4, 6, 9, 38, 39, 40]), (18, [6, 9, 13, 14, 15, 72, 73, 74]), (26, [6, 14, 18, 92, 93, 94])], loud := [], ord := [] }
def vc64 (C : Cb) (a0 a1 a2 : V) (H : Hp) (R : List V → Hp → Prop) : Prop :=
 C.aBx true 2 a0.nod H fun (v1 : V) (H2 : Hp) =>
 C.aBx true 2 a1.nod H2 fun (v3 : V) (H4 : Hp) =>
 C.aBx false 2 (V.agg [(V.arr [] .full), (V.arr [] .full)]) H4 fun (v5 : V) (H6 : Hp) =>
 Jn (fun (l7 : List V) (H8 : Hp) =>
 C.aLd 2 true false (l7.getD 2 .junk).nod H8 fun (v10 : V) (H11 : Hp) =>
 C.call 84 [v10.nod] H11 fun (v12 : V) (H13 : Hp) =>
 C.aUn .not v12.nod fun (v14 : V) =>
 aCond v14.nod (
 C.aBd [(V.arr [] .full), (V.arr [] .full)] [] fun (v15 : V) =>
 C.aSt 2 (l7.getD 3 .junk).nod v15 H13 fun (v16 : V) (H17 : Hp) =>
 C.aRes 2 true (l7.getD 3 .junk) H17 fun (v18 : V) =>
 R [v18, (I 2)] H17) (
 C.aBx false 1 (V.arr [] .full) H13 fun (v19 : V) (H20 : Hp) =>
 C.aLd 2 true false (l7.getD 1 .junk).nod H20 fun (v21 : V) (H22 : Hp) =>
 C.call 85 [v21.nod] H22 fun (v23 : V) (H24 : Hp) =>
 C.range v23.nod 1 H24 (fun (l25 : List V) (H26 : Hp) (D27 : Hp → (Hp → Prop) → Prop) (K28 : Bool → Hp → Prop) =>
 D27 H26 fun (H29 : Hp) =>
 C.aLd 1 false true v19.nod.nod H29 fun (v32 : V) (H33 : Hp) =>
 C.aBS 1 1 (V.arr [] .full) [(0, (l25.getD 0 .junk).nod.nod)] fun (v34 : V) =>
 C.aApp 1 24 v32 v34.nod fun (v35 : V) =>
 C.aSt 1 v19.nod.nod v35 H33 fun (v36 : V) (H37 : Hp) =>
 K28 false H37) (fun (H30 : Hp) =>
 C.aLen (l7.getD 0 .junk).nod.nod.nod fun (v38 : V) =>
 LoopA (fun (l39 : List V) (H40 : Hp) (K41 : List V → Hp → Prop) =>
 C.aBin (Try.prog.underlying 3) .lss (l39.getD 6 .junk).nod (l39.getD 5 .junk).nod fun (v42 : V) =>
 aCond v42.nod (
 C.aIx 1 (l39.getD 4 .junk).nod (l39.getD 6 .junk).nod fun (v43 : V) =>
 C.aLd 1 false false v43.nod H40 fun (v44 : V) (H45 : Hp) =>
 C.aLd 2 true false (l39.getD 1 .junk).nod H45 fun (v46 : V) (H47 : Hp) =>
 C.aLd 1 false false (l39.getD 3 .junk).nod H47 fun (v48 : V) (H49 : Hp) =>
 aCallG C v44.nod.nod [v46.nod, v48.nod] H49 fun (v50 : V) (H51 : Hp) =>
 C.aSt 1 (l39.getD 3 .junk).nod v50 H51 fun (v52 : V) (H53 : Hp) =>
 C.aBin (Try.prog.underlying 3) .add (l39.getD 6 .junk).nod (I 1) fun (v54 : V) =>
 K41 [(l39.getD 0 .junk), (l39.getD 1 .junk), (l39.getD 2 .junk), (l39.getD 3 .junk), (l39.getD 4 .junk), (l39.getD 5 .junk), v54.nod] H53) (
 Jn (fun (l55 : List V) (H56 : Hp) =>
 C.aLen (l55.getD 2 .junk).nod.nod fun (v58 : V) =>
 C.aLen (l55.getD 3 .junk).nod.nod fun (v59 : V) =>
 C.aBin (Try.prog.underlying 3) .add v58.nod v59.nod fun (v60 : V) =>
 C.aLd 1 false false (l55.getD 1 .junk).nod H56 fun (v61 : V) (H62 : Hp) =>
 C.aLen v61.nod fun (v63 : V) =>
 LoopA (fun (l64 : List V) (H65 : Hp) (K66 : List V → Hp → Prop) =>
 C.aBin (Try.prog.underlying 3) .lss (l64.getD 7 .junk).nod (l64.getD 6 .junk).nod fun (v67 : V) =>
 aCond v67.nod (
 C.aIx 1 (l64.getD 5 .junk).nod (l64.getD 7 .junk).nod fun (v68 : V) =>
 C.aLd 1 false false v68.nod H65 fun (v69 : V) (H70 : Hp) =>
 C.aLen v69.nod.nod fun (v71 : V) =>
 C.aBin (Try.prog.underlying 3) .add (l64.getD 4 .junk).nod.nod v71.nod fun (v72 : V) =>
 C.aBin (Try.prog.underlying 3) .add (l64.getD 7 .junk).nod (I 1) fun (v73 : V) =>
 K66 [(l64.getD 0 .junk), (l64.getD 1 .junk), (l64.getD 2 .junk), (l64.getD 3 .junk), v72, (l64.getD 5 .junk), (l64.getD 6 .junk), v73.nod] H70) (
 Jn (fun (l74 : List V) (H75 : Hp) =>
 aCond (l74.getD 4 .junk).nod (
 C.aBd [(V.arr [] .full), (V.arr [] .full)] [] fun (v77 : V) =>
 C.aSt 2 (l74.getD 0 .junk).nod v77 H75 fun (v78 : V) (H79 : Hp) =>
 C.aRes 2 true (l74.getD 0 .junk) H79 fun (v80 : V) =>
 R [v80, (I 4)] H79) (
 C.call 61 [(l74.getD 2 .junk).nod.nod] H75 fun (v81 : V) (H82 : Hp) =>
 C.aLen (l74.getD 2 .junk).nod.nod fun (v83 : V) =>
 C.aBS 1 1 (I 0) [(0, v83.nod)] fun (v84 : V) =>
 C.aBd [(V.arr [] .full), (V.arr [] .full)] [(0, 1, v81.nod), (1, 1, v84.nod.nod)] fun (v85 : V) =>
 C.aBx false 2 (V.agg [(V.arr [] .full), (V.arr [] .full)]) H82 fun (v86 : V) (H87 : Hp) =>
 C.aSt 2 v86.nod (own0 v85 v81) H87 fun (v88 : V) (H89 : Hp) =>
 Jn (fun (l90 : List V) (H91 : Hp) =>
 C.aFA 0 1 false (l90.getD 2 .junk).nod fun (v93 : V) =>
 C.aLd 1 false true v93.nod H91 fun (v94 : V) (H95 : Hp) =>
 C.aApp 1 8 v94 (l90.getD 1 .junk).nod.nod fun (v96 : V) =>
 C.aFA 0 1 false (l90.getD 2 .junk).nod fun (v97 : V) =>
 C.aSt 1 v97.nod v96 H95 fun (v98 : V) (H99 : Hp) =>
 C.aLd 2 true false (l90.getD 2 .junk).nod H99 fun (v100 : V) (H101 : Hp) =>
 C.aSt 2 (l90.getD 0 .junk).nod v100 H101 fun (v102 : V) (H103 : Hp) =>
 C.aRes 2 true (l90.getD 0 .junk) H103 fun (v104 : V) =>
 R [v104, (I 0)] H103)
 (fun (R92 : List V → Hp → Prop) =>
 Jn (fun (l105 : List V) (H106 : Hp) =>
 LoopA (fun (l108 : List V) (H109 : Hp) (K110 : List V → Hp → Prop) =>
 C.aBin (Try.prog.underlying 3) .lss (l108.getD 5 .junk).nod (l108.getD 4 .junk).nod fun (v111 : V) =>
 aCond v111.nod (
 C.aIx 1 (l108.getD 3 .junk).nod (l108.getD 5 .junk).nod fun (v112 : V) =>
 C.aLd 1 false false v112.nod H109 fun (v113 : V) (H114 : Hp) =>
 C.aFA 0 1 false (l108.getD 2 .junk).nod fun (v115 : V) =>
 C.aLd 1 false true v115.nod H114 fun (v116 : V) (H117 : Hp) =>
 C.aApp 1 8 v116 v113.nod.nod fun (v118 : V) =>
 C.aFA 0 1 false (l108.getD 2 .junk).nod fun (v119 : V) =>
 C.aSt 1 v119.nod v118 H117 fun (v120 : V) (H121 : Hp) =>
 C.aFA 1 1 false (l108.getD 2 .junk).nod fun (v122 : V) =>
 C.aLd 1 false true v122.nod H121 fun (v123 : V) (H124 : Hp) =>
 C.aFA 0 1 false (l108.getD 2 .junk).nod fun (v125 : V) =>
 C.aLd 1 false false v125.nod H124 fun (v126 : V) (H127 : Hp) =>
 C.aLen v126.nod fun (v128 : V) =>
 C.aBS 1 1 (I 0) [(0, v128.nod)] fun (v129 : V) =>
 C.aApp 1 8 v123 v129.nod fun (v130 : V) =>
 C.aFA 1 1 false (l108.getD 2 .junk).nod fun (v131 : V) =>
 C.aSt 1 v131.nod v130 H127 fun (v132 : V) (H133 : Hp) =>
 C.aBin (Try.prog.underlying 3) .add (l108.getD 5 .junk).nod (I 1) fun (v134 : V) =>
 K110 [(l108.getD 0 .junk), (l108.getD 1 .junk), (l108.getD 2 .junk), (l108.getD 3 .junk), (l108.getD 4 .junk), v134.nod] H133) (
 R92 [(l108.getD 0 .junk), (l108.getD 1 .junk), (l108.getD 2 .junk)] H109))
 [(l105.getD 0 .junk), (l105.getD 1 .junk), (l105.getD 2 .junk), (l105.getD 3 .junk), (l105.getD 4 .junk), (l105.getD 5 .junk)] H106)
 (fun (R107 : List V → Hp → Prop) =>
 C.aLd 1 false false (l74.getD 1 .junk).nod H89 fun (v135 : V) (H136 : Hp) =>
 C.aLen v135.nod fun (v137 : V) =>
 R107 [(l74.getD 0 .junk), (l74.getD 3 .junk), v86, v135, v137, (I 0)] H136))))
 (fun (R76 : List V → Hp → Prop) =>
 C.aBin (Try.prog.underlying 3) .gtr (l64.getD 4 .junk).nod.nod (I 100000) fun (v138 : V) =>
 R76 [(l64.getD 0 .junk), (l64.getD 1 .junk), (l64.getD 2 .junk), (l64.getD 3 .junk), v138] H65)))
 [(l55.getD 0 .junk), (l55.getD 1 .junk), (l55.getD 2 .junk), (l55.getD 3 .junk), v60, v61, v63, (I 0)] H62)
 (fun (R57 : List V → Hp → Prop) =>
 C.aFA 0 1 false (l39.getD 0 .junk).nod fun (v139 : V) =>
 C.aLd 1 false false v139.nod H40 fun (v140 : V) (H141 : Hp) =>
 C.aFA 1 1 false (l39.getD 0 .junk).nod fun (v142 : V) =>
 C.aLd 1 false false v142.nod H141 fun (v143 : V) (H144 : Hp) =>
 C.aIx 1 v143.nod (I 0) fun (v145 : V) =>
 C.aLd 1 false false v145.nod H144 fun (v146 : V) (H147 : Hp) =>
 C.aSlc 1 v140.nod none (some v146.nod) none fun (v148 : V) =>
 C.aFA 0 1 false (l39.getD 0 .junk).nod fun (v149 : V) =>
 C.aLd 1 false false v149.nod H147 fun (v150 : V) (H151 : Hp) =>
 C.aFA 1 1 false (l39.getD 0 .junk).nod fun (v152 : V) =>
 C.aLd 1 false false v152.nod H151 fun (v153 : V) (H154 : Hp) =>
 C.aFA 1 1 false (l39.getD 0 .junk).nod fun (v155 : V) =>
 C.aLd 1 false false v155.nod H154 fun (v156 : V) (H157 : Hp) =>
 C.aLen v156.nod fun (v158 : V) =>
 C.aBin (Try.prog.underlying 3) .sub v158.nod (I 1) fun (v159 : V) =>
 C.aIx 1 v153.nod v159.nod fun (v160 : V) =>
 C.aLd 1 false false v160.nod H157 fun (v161 : V) (H162 : Hp) =>
 C.aSlc 1 v150.nod (some v161.nod) none none fun (v163 : V) =>
 R57 [(l39.getD 2 .junk), (l39.getD 3 .junk), v148, v163] H162)))
 [(l7.getD 1 .junk).nod, (l7.getD 2 .junk).nod, (l7.getD 3 .junk).nod, v19.nod, (l7.getD 0 .junk).nod.nod, v38, (I 0)] H30) (fun (H31 : Hp) =>
 C.aRes 2 true (l7.getD 3 .junk).nod H31 fun (v164 : V) =>
 R [v164, (l7.getD 4 .junk).nod] H31)))
 (fun (R9 : List V → Hp → Prop) =>
 C.aLd 2 true false v1.nod H6 fun (v165 : V) (H166 : Hp) =>
 C.call 69 [v165.nod] H166 fun (v167 : V) (H168 : Hp) =>
 C.aBin (Try.prog.underlying 25) .neq v167.nod.nod (I 0) fun (v169 : V) =>
 aCond v169.nod (
 C.aBd [(V.arr [] .full), (V.arr [] .full)] [] fun (v170 : V) =>
 C.aSt 2 v5.nod v170 H168 fun (v171 : V) (H172 : Hp) =>
 C.aRes 2 true v5 H172 fun (v173 : V) =>
 R [v173, v167.nod] H172) (
 R9 [a2, v1, v3, v5, (I 0)] H168))
theorem wf64 : (Nat.ble 3 Try.f64.ntmps && wfC an64 Try.f64.ntmps (Try.f64.body.getD .skip)) = true := by kernel_rfl
theorem tie64 (C : Cb) (a0 a1 a2 : V) (H : Hp) (R : List V → Hp → Prop) : wpG Try.prog C an64 (Try.f64.body.getD .skip) (argF [a0, a1, a2]) H (retG Try.prog C Try.f64 R) (fun _ _ _ => False) (retG Try.prog C Try.f64 R) = vc64 C a0 a1 a2 H R := by kernel_rfl
theorem mk64 (a0 a1 a2 : V) {H : Hp} {v : V} {H1 : Hp} (hd : v.Nd) (hn : H.length ≤ H1.length) (hb : H1 = H ∨ ∀ (b : Nat) (blk : Blk), H1[b]? = some blk → H[b]? = some blk ∨ BelB H1.length blk) (h : vc64 (real Try.prog) a0 a1 a2 H (retF v H1)) : Ret Try.prog 64 [a0, a1, a2] H v H1 :=
  ret_mk (an := an64) hm Try.call64 Try.func64 rfl wf64 hd hn hb (Eq.mpr (tie64 (real Try.prog) a0 a1 a2 H (retF v H1)) h)

/- (declaim/join.ratio).stretched -/
def an65 : An := { imm := [2], jn := [(3, [1, 5, 6])], lp := [(5, [1, 5, 6, 7, 17, 18])], loud := [], ord := [] }
def vc65 (C : Cb) (a0 a1 : V) (H : Hp) (R : List V → Hp → Prop) : Prop :=
 C.aBx true 2 a0.nod H fun (v1 : V) (H2 : Hp) =>
 C.aLen a1.nod.nod fun (v3 : V) =>
 Jn (fun (l4 : List V) (H5 : Hp) =>
 LoopA (fun (l7 : List V) (H8 : Hp) (K9 : List V → Hp → Prop) =>
 C.aBin (Try.prog.underlying 3) .lss (l7.getD 5 .junk).nod (l7.getD 4 .junk).nod fun (v10 : V) =>
 aCond v10.nod (
 C.aBin (Try.prog.underlying 3) .mul (l7.getD 5 .junk).nod.nod.nod (l7.getD 1 .junk).nod.nod fun (v11 : V) =>
 C.aBin (Try.prog.underlying 3) .quo v11.nod (l7.getD 2 .junk).nod.nod fun (v12 : V) =>
 C.aIx 1 (l7.getD 0 .junk).nod.nod v12.nod fun (v13 : V) =>
 C.aLd 1 false false v13.nod H8 fun (v14 : V) (H15 : Hp) =>
 C.aBS 1 1 (V.arr [] .full) [(0, v14.nod)] fun (v16 : V) =>
 C.aApp 1 24 (l7.getD 3 .junk) v16.nod fun (v17 : V) =>
 C.aBin (Try.prog.underlying 3) .add (l7.getD 5 .junk).nod (I 1) fun (v18 : V) =>
 K9 [(l7.getD 0 .junk), (l7.getD 1 .junk), (l7.getD 2 .junk), v17, (l7.getD 4 .junk), v18.nod] H15) (
 R [(l7.getD 3 .junk).nod] H8))
 [(l4.getD 0 .junk), (l4.getD 1 .junk), (l4.getD 2 .junk), (V.arr [] .full), (l4.getD 2 .junk).nod, (I 0)] H5)
 (fun (R6 : List V → Hp → Prop) =>
 C.aFA 0 1 false v1.nod fun (v19 : V) =>
 C.aLd 1 false false v19.nod H2 fun (v20 : V) (H21 : Hp) =>
 C.aFA 1 1 false v1.nod fun (v22 : V) =>
 C.aLd 1 false false v22.nod H21 fun (v23 : V) (H24 : Hp) =>
 C.call 86 [v3.nod.nod, v20.nod, v23.nod] H24 fun (v25 : V) (H26 : Hp) =>
 R6 [a1, v3, v25] H26)
theorem wf65 : (Nat.ble 2 Try.f65.ntmps && wfC an65 Try.f65.ntmps (Try.f65.body.getD .skip)) = true := by kernel_rfl
theorem tie65 (C : Cb) (a0 a1 : V) (H : Hp) (R : List V → Hp → Prop) : wpG Try.prog C an65 (Try.f65.body.getD .skip) (argF [a0, a1]) H (retG Try.prog C Try.f65 R) (fun _ _ _ => False) (retG Try.prog C Try.f65 R) = vc65 C a0 a1 H R := by kernel_rfl
theorem mk65 (a0 a1 : V) {H : Hp} {v : V} {H1 : Hp} (hd : v.Nd) (hn : H.length ≤ H1.length) (hb : H1 = H ∨ ∀ (b : Nat) (blk : Blk), H1[b]? = some blk → H[b]? = some blk ∨ BelB H1.length blk) (h : vc65 (real Try.prog) a0 a1 H (retF v H1)) : Ret Try.prog 65 [a0, a1] H v H1 :=
  ret_mk (an := an65) hm Try.call65 Try.func65 rfl wf65 hd hn hb (Eq.mpr (tie65 (real Try.prog) a0 a1 H (retF v H1)) h)
theorem mko65 (a0 a1 : V) {H : Hp} {xs : List V} {H1 : Hp} (hn : H.length ≤ H1.length) (hb : H1 = H ∨ ∀ (b : Nat) (blk : Blk), H1[b]? = some blk → H[b]? = some blk ∨ BelB H1.length blk) (h : vc65 (real Try.prog) a0 a1 H (retO xs H1)) : Ret Try.prog 65 [a0, a1] H (.arr xs .own) H1 :=
  ret_mko (an := an65) (t := 4) hm Try.call65 Try.func65 rfl wf65 rfl hn hb (Eq.mpr (tie65 (real Try.prog) a0 a1 H (retO xs H1)) h)

/- (declaim/join.ratio).transposed -/
def an66 : An := { imm := [2], jn := [(6, [2, 5, 7, 8, 10, 11, 12]), (9, [2, 5, 9, 10, 11, 12])], lp := [(3, [2, 5, 10, 11, 12]), (7, [2, 5, 7, 8, 9, 10, 11, 12])], loud := [], ord := [] }
def vc66 (C : Cb) (a0 a1 : V) (H : Hp) (R : List V → Hp → Prop) : Prop :=
 C.aBx true 2 a0.nod H fun (v1 : V) (H2 : Hp) =>
 C.aLen a1.nod.nod fun (v3 : V) =>
 LoopA (fun (l4 : List V) (H5 : Hp) (K6 : List V → Hp → Prop) =>
 C.aBin (Try.prog.underlying 3) .lss (l4.getD 4 .junk).nod (l4.getD 3 .junk).nod fun (v7 : V) =>
 aCond v7.nod (
 C.aIx 1 (l4.getD 2 .junk).nod (l4.getD 4 .junk).nod fun (v8 : V) =>
 C.aLd 1 false false v8.nod H5 fun (v9 : V) (H10 : Hp) =>
 Jn (fun (l11 : List V) (H12 : Hp) =>
 C.aLen (l11.getD 2 .junk).nod.nod fun (v14 : V) =>
 C.aMM false [(l11.getD 3 .junk).nod.nod, v14.nod] fun (v15 : V) =>
 C.aSlc 1 (l11.getD 2 .junk).nod.nod none (some v15.nod) none fun (v16 : V) =>
 C.call 61 [v16.nod] H12 fun (v17 : V) (H18 : Hp) =>
 Jn (fun (l19 : List V) (H20 : Hp) =>
 C.aBS 1 1 (V.arr [] .full) [(0, (l19.getD 2 .junk).nod.nod)] fun (v22 : V) =>
 C.aApp 1 24 (l19.getD 1 .junk) v22.nod fun (v23 : V) =>
 C.aBin (Try.prog.underlying 3) .add (l19.getD 5 .junk).nod (I 1) fun (v24 : V) =>
 K6 [(l19.getD 0 .junk), v23, (l19.getD 3 .junk), (l19.getD 4 .junk), v24.nod] H20)
 (fun (R21 : List V → Hp → Prop) =>
 LoopA (fun (l25 : List V) (H26 : Hp) (K27 : List V → Hp → Prop) =>
 C.aLen (l25.getD 4 .junk).nod.nod fun (v28 : V) =>
 C.aBin (Try.prog.underlying 3) .lss v28.nod (l25.getD 3 .junk).nod.nod fun (v29 : V) =>
 aCond v29.nod (
 C.aLen (l25.getD 2 .junk).nod.nod fun (v30 : V) =>
 C.aBin (Try.prog.underlying 3) .sub v30.nod (I 1) fun (v31 : V) =>
 C.aIx 1 (l25.getD 2 .junk).nod.nod v31.nod fun (v32 : V) =>
 C.aLd 1 false false v32.nod H26 fun (v33 : V) (H34 : Hp) =>
 C.aBS 1 1 (I 0) [(0, v33.nod)] fun (v35 : V) =>
 C.aApp 1 8 (l25.getD 4 .junk) v35.nod fun (v36 : V) =>
 K27 [(l25.getD 0 .junk), (l25.getD 1 .junk), (l25.getD 2 .junk), (l25.getD 3 .junk), v36, (l25.getD 5 .junk), (l25.getD 6 .junk), (l25.getD 7 .junk)] H34) (
 R21 [(l25.getD 0 .junk), (l25.getD 1 .junk), (l25.getD 4 .junk), (l25.getD 5 .junk), (l25.getD 6 .junk), (l25.getD 7 .junk)] H26))
 [(l11.getD 0 .junk), (l11.getD 1 .junk), (l11.getD 2 .junk), (l11.getD 3 .junk), v17, (l11.getD 4 .junk), (l11.getD 5 .junk), (l11.getD 6 .junk)] H18))
 (fun (R13 : List V → Hp → Prop) =>
 C.aLen v9.nod.nod fun (v37 : V) =>
 C.aFA 1 1 false (l4.getD 0 .junk).nod fun (v38 : V) =>
 C.aLd 1 false false v38.nod H10 fun (v39 : V) (H40 : Hp) =>
 C.aFA 0 1 false (l4.getD 0 .junk).nod fun (v41 : V) =>
 C.aLd 1 false false v41.nod H40 fun (v42 : V) (H43 : Hp) =>
 C.call 86 [v37.nod, v39.nod, v42.nod] H43 fun (v44 : V) (H45 : Hp) =>
 R13 [(l4.getD 0 .junk), (l4.getD 1 .junk), v9, v44, (l4.getD 2 .junk), (l4.getD 3 .junk), (l4.getD 4 .junk)] H45)) (
 R [(l4.getD 1 .junk).nod] H5))
 [v1, (V.arr [] .full), a1.nod, v3, (I 0)] H2
theorem wf66 : (Nat.ble 2 Try.f66.ntmps && wfC an66 Try.f66.ntmps (Try.f66.body.getD .skip)) = true := by kernel_rfl
theorem tie66 (C : Cb) (a0 a1 : V) (H : Hp) (R : List V → Hp → Prop) : wpG Try.prog C an66 (Try.f66.body.getD .skip) (argF [a0, a1]) H (retG Try.prog C Try.f66 R) (fun _ _ _ => False) (retG Try.prog C Try.f66 R) = vc66 C a0 a1 H R := by kernel_rfl
theorem mk66 (a0 a1 : V) {H : Hp} {v : V} {H1 : Hp} (hd : v.Nd) (hn : H.length ≤ H1.length) (hb : H1 = H ∨ ∀ (b : Nat) (blk : Blk), H1[b]? = some blk → H[b]? = some blk ∨ BelB H1.length blk) (h : vc66 (real Try.prog) a0 a1 H (retF v H1)) : Ret Try.prog 66 [a0, a1] H v H1 :=
  ret_mk (an := an66) hm Try.call66 Try.func66 rfl wf66 hd hn hb (Eq.mpr (tie66 (real Try.prog) a0 a1 H (retF v H1)) h)
theorem mko66 (a0 a1 : V) {H : Hp} {xs : List V} {H1 : Hp} (hn : H.length ≤ H1.length) (hb : H1 = H ∨ ∀ (b : Nat) (blk : Blk), H1[b]? = some blk → H[b]? = some blk ∨ BelB H1.length blk) (h : vc66 (real Try.prog) a0 a1 H (retO xs H1)) : Ret Try.prog 66 [a0, a1] H (.arr xs .own) H1 :=
  ret_mko (an := an66) (t := 4) hm Try.call66 Try.func66 rfl wf66 rfl hn hb (Eq.mpr (tie66 (real Try.prog) a0 a1 H (retO xs H1)) h)

/- declaim/declaimref07.near -/
def an67 : An := { imm := [], jn := [], lp := [], loud := [], ord := [] }
def vc67 (C : Cb) (a0 a1 : V) (H : Hp) (R : List V → Hp → Prop) : Prop :=
 C.aBin (Try.prog.underlying 3) .mul (I 2) a0.nod.nod fun (v1 : V) =>
 C.aBin (Try.prog.underlying 3) .add v1.nod a1.nod.nod fun (v2 : V) =>
 C.aBin (Try.prog.underlying 3) .mul (I 2) a1.nod.nod fun (v3 : V) =>
 C.aBin (Try.prog.underlying 3) .quo v2.nod v3.nod fun (v4 : V) =>
 C.aMM true [(I 1), v4.nod] fun (v5 : V) =>
 R [v5] H
theorem wf67 : (Nat.ble 2 Try.f67.ntmps && wfC an67 Try.f67.ntmps (Try.f67.body.getD .skip)) = true := by kernel_rfl
theorem tie67 (C : Cb) (a0 a1 : V) (H : Hp) (R : List V → Hp → Prop) : wpG Try.prog C an67 (Try.f67.body.getD .skip) (argF [a0, a1]) H (retG Try.prog C Try.f67 R) (fun _ _ _ => False) (retG Try.prog C Try.f67 R) = vc67 C a0 a1 H R := by kernel_rfl
theorem mk67 (a0 a1 : V) {H : Hp} {v : V} {H1 : Hp} (hd : v.Nd) (hn : H.length ≤ H1.length) (hb : H1 = H ∨ ∀ (b : Nat) (blk : Blk), H1[b]? = some blk → H[b]? = some blk ∨ BelB H1.length blk) (h : vc67 (real Try.prog) a0 a1 H (retF v H1)) : Ret Try.prog 67 [a0, a1] H v H1 :=
  ret_mk (an := an67) hm Try.call67 Try.func67 rfl wf67 hd hn hb (Eq.mpr (tie67 (real Try.prog) a0 a1 H (retF v H1)) h)
theorem mko67 (a0 a1 : V) {H : Hp} {xs : List V} {H1 : Hp} (hn : H.length ≤ H1.length) (hb : H1 = H ∨ ∀ (b : Nat) (blk : Blk), H1[b]? = some blk → H[b]? = some blk ∨ BelB H1.length blk) (h : vc67 (real Try.prog) a0 a1 H (retO xs H1)) : Ret Try.prog 67 [a0, a1] H (.arr xs .own) H1 :=
  ret_mko (an := an67) (t := 4) hm Try.call67 Try.func67 rfl wf67 rfl hn hb (Eq.mpr (tie67 (real Try.prog) a0 a1 H (retO xs H1)) h)

/- declaim/declaimref07.built -/
def an68 : An := { imm := [2], jn := [(4, [1, 2, 4, 5, 6]), (8, [1, 2, 4, 5, 6, 7]), (9, [2, 4, 5, 6])], lp := [(5, [1, 2, 4, 5, 6, 7])], loud := [], ord := [] }
def vc68 (C : Cb) (a0 a1 : V) (H : Hp) (R : List V → Hp → Prop) : Prop :=
 C.aBx true 2 a0.nod H fun (v1 : V) (H2 : Hp) =>
 C.aBx false 2 (V.agg [(V.arr [] .full), (V.arr [] .full)]) H2 fun (v3 : V) (H4 : Hp) =>
 C.aBx false 2 (V.agg [(V.arr [] .full), (V.arr [] .full)]) H4 fun (v5 : V) (H6 : Hp) =>
 C.aFA 1 1 false v1.nod fun (v7 : V) =>
 C.aLd 1 false false v7.nod H6 fun (v8 : V) (H9 : Hp) =>
 C.aLen v8.nod fun (v10 : V) =>
 C.aBin (Try.prog.underlying 3) .sub v10.nod (I 1) fun (v11 : V) =>
 Jn (fun (l12 : List V) (H13 : Hp) =>
 Jn (fun (l15 : List V) (H16 : Hp) =>
 C.aFA 1 1 false (l15.getD 2 .junk).nod fun (v18 : V) =>
 C.aLd 1 false true v18.nod H16 fun (v19 : V) (H20 : Hp) =>
 C.aFA 0 1 false (l15.getD 2 .junk).nod fun (v21 : V) =>
 C.aLd 1 false false v21.nod H20 fun (v22 : V) (H23 : Hp) =>
 C.aLen v22.nod fun (v24 : V) =>
 C.aBS 1 1 (I 0) [(0, v24.nod)] fun (v25 : V) =>
 C.aApp 1 8 v19 v25.nod fun (v26 : V) =>
 C.aFA 1 1 false (l15.getD 2 .junk).nod fun (v27 : V) =>
 C.aSt 1 v27.nod v26 H23 fun (v28 : V) (H29 : Hp) =>
 C.aFA 0 1 false (l15.getD 2 .junk).nod fun (v30 : V) =>
 C.aLd 1 false true v30.nod H29 fun (v31 : V) (H32 : Hp) =>
 C.aFA 0 1 false (l15.getD 0 .junk).nod fun (v33 : V) =>
 C.aLd 1 false false v33.nod H32 fun (v34 : V) (H35 : Hp) =>
 C.aFA 1 1 false (l15.getD 0 .junk).nod fun (v36 : V) =>
 C.aLd 1 false false v36.nod H35 fun (v37 : V) (H38 : Hp) =>
 C.aIx 1 v37.nod (l15.getD 3 .junk).nod.nod fun (v39 : V) =>
 C.aLd 1 false false v39.nod H38 fun (v40 : V) (H41 : Hp) =>
 C.aSlc 1 v34.nod (some v40.nod) none none fun (v42 : V) =>
 C.aApp 1 8 v31 v42.nod fun (v43 : V) =>
 C.aFA 0 1 false (l15.getD 2 .junk).nod fun (v44 : V) =>
 C.aSt 1 v44.nod v43 H41 fun (v45 : V) (H46 : Hp) =>
 C.aLd 2 true false (l15.getD 2 .junk).nod H46 fun (v47 : V) (H48 : Hp) =>
 C.aSt 2 (l15.getD 1 .junk).nod v47 H48 fun (v49 : V) (H50 : Hp) =>
 C.aRes 2 true (l15.getD 1 .junk) H50 fun (v51 : V) =>
 R [v51] H50)
 (fun (R17 : List V → Hp → Prop) =>
 LoopA (fun (l52 : List V) (H53 : Hp) (K54 : List V → Hp → Prop) =>
 C.aLen (l52.getD 0 .junk).nod.nod fun (v55 : V) =>
 C.aBin (Try.prog.underlying 3) .lss (l52.getD 5 .junk).nod.nod v55.nod fun (v56 : V) =>
 aCond v56.nod (
 Jn (fun (l57 : List V) (H58 : Hp) =>
 C.aFA 0 1 false (l57.getD 3 .junk).nod fun (v60 : V) =>
 C.aLd 1 false true v60.nod H58 fun (v61 : V) (H62 : Hp) =>
 C.aIx 1 (l57.getD 0 .junk).nod.nod (l57.getD 5 .junk).nod.nod fun (v63 : V) =>
 C.aLd 1 false false v63.nod H62 fun (v64 : V) (H65 : Hp) =>
 C.aApp 1 8 v61 v64.nod fun (v66 : V) =>
 C.aFA 0 1 false (l57.getD 3 .junk).nod fun (v67 : V) =>
 C.aSt 1 v67.nod v66 H65 fun (v68 : V) (H69 : Hp) =>
 C.aBin (Try.prog.underlying 3) .add (l57.getD 5 .junk).nod.nod (I 1) fun (v70 : V) =>
 K54 [(l57.getD 0 .junk), (l57.getD 1 .junk), (l57.getD 2 .junk), (l57.getD 3 .junk), (l57.getD 4 .junk), v70] H69)
 (fun (R59 : List V → Hp → Prop) =>
 C.aFA 1 1 false (l52.getD 3 .junk).nod fun (v71 : V) =>
 C.aLd 1 false true v71.nod H53 fun (v72 : V) (H73 : Hp) =>
 C.aFA 0 1 false (l52.getD 3 .junk).nod fun (v74 : V) =>
 C.aLd 1 false false v74.nod H73 fun (v75 : V) (H76 : Hp) =>
 C.aLen v75.nod fun (v77 : V) =>
 C.aBS 1 1 (I 0) [(0, v77.nod)] fun (v78 : V) =>
 C.aApp 1 8 v72 v78.nod fun (v79 : V) =>
 C.aFA 1 1 false (l52.getD 3 .junk).nod fun (v80 : V) =>
 C.aSt 1 v80.nod v79 H76 fun (v81 : V) (H82 : Hp) =>
 R59 [(l52.getD 0 .junk), (l52.getD 1 .junk), (l52.getD 2 .junk), (l52.getD 3 .junk), (l52.getD 4 .junk), (l52.getD 5 .junk)] H82)) (
 R17 [(l52.getD 1 .junk), (l52.getD 2 .junk), (l52.getD 3 .junk), (l52.getD 4 .junk)] H53))
 [(l12.getD 0 .junk), (l12.getD 1 .junk), (l12.getD 2 .junk), (l12.getD 3 .junk), (l12.getD 4 .junk), (I 0)] H13))
 (fun (R14 : List V → Hp → Prop) =>
 C.aFA 0 1 false v5.nod fun (v83 : V) =>
 C.aLd 1 false true v83.nod H9 fun (v84 : V) (H85 : Hp) =>
 C.aFA 0 1 false v1.nod fun (v86 : V) =>
 C.aLd 1 false false v86.nod H85 fun (v87 : V) (H88 : Hp) =>
 C.aFA 1 1 false v1.nod fun (v89 : V) =>
 C.aLd 1 false false v89.nod H88 fun (v90 : V) (H91 : Hp) =>
 C.aIx 1 v90.nod (I 0) fun (v92 : V) =>
 C.aLd 1 false false v92.nod H91 fun (v93 : V) (H94 : Hp) =>
 C.aSlc 1 v87.nod none (some v93.nod) none fun (v95 : V) =>
 C.aApp 1 8 v84 v95.nod fun (v96 : V) =>
 C.aFA 0 1 false v5.nod fun (v97 : V) =>
 C.aSt 1 v97.nod v96 H94 fun (v98 : V) (H99 : Hp) =>
 R14 [a1, v1, v3, v5, v11] H99)
theorem wf68 : (Nat.ble 2 Try.f68.ntmps && wfC an68 Try.f68.ntmps (Try.f68.body.getD .skip)) = true := by kernel_rfl
theorem tie68 (C : Cb) (a0 a1 : V) (H : Hp) (R : List V → Hp → Prop) : wpG Try.prog C an68 (Try.f68.body.getD .skip) (argF [a0, a1]) H (retG Try.prog C Try.f68 R) (fun _ _ _ => False) (retG Try.prog C Try.f68 R) = vc68 C a0 a1 H R := by kernel_rfl
theorem mk68 (a0 a1 : V) {H : Hp} {v : V} {H1 : Hp} (hd : v.Nd) (hn : H.length ≤ H1.length) (hb : H1 = H ∨ ∀ (b : Nat) (blk : Blk), H1[b]? = some blk → H[b]? = some blk ∨ BelB H1.length blk) (h : vc68 (real Try.prog) a0 a1 H (retF v H1)) : Ret Try.prog 68 [a0, a1] H v H1 :=
  ret_mk (an := an68) hm Try.call68 Try.func68 rfl wf68 hd hn hb (Eq.mpr (tie68 (real Try.prog) a0 a1 H (retF v H1)) h)

/- declaim/join.marked -/
def an69 : An := { imm := [1], jn := [(5, [1, 13, 14, 15]), (8, [1, 13, 14, 15, 42])], lp := [(5, [1, 13, 14, 15])], loud := [], ord := [] }
def vc69 (C : Cb) (a0 : V) (H : Hp) (R : List V → Hp → Prop) : Prop :=
 C.aBx true 2 a0.nod H fun (v1 : V) (H2 : Hp) =>
 C.aFA 0 1 false v1.nod fun (v3 : V) =>
 C.aLd 1 false false v3.nod H2 fun (v4 : V) (H5 : Hp) =>
 C.call 73 [v4.nod] H5 fun (v6 : V) (H7 : Hp) =>
 C.aBin (Try.prog.underlying 25) .neq v6.nod.nod (I 0) fun (v8 : V) =>
 aCond v8.nod (
 R [v6.nod] H7) (
 Jn (fun (l9 : List V) (H10 : Hp) =>
 LoopA (fun (l12 : List V) (H13 : Hp) (K14 : List V → Hp → Prop) =>
 C.aBin (Try.prog.underlying 3) .lss (l12.getD 3 .junk).nod (l12.getD 2 .junk).nod fun (v15 : V) =>
 aCond v15.nod (
 C.aIx 1 (l12.getD 1 .junk).nod (l12.getD 3 .junk).nod fun (v16 : V) =>
 C.aLd 1 false false v16.nod H13 fun (v17 : V) (H18 : Hp) =>
 Jn (fun (l19 : List V) (H20 : Hp) =>
 aCond (l19.getD 4 .junk).nod (
 R [(I 2)] H20) (
 C.aBin (Try.prog.underlying 3) .add (l19.getD 3 .junk).nod (I 1) fun (v22 : V) =>
 K14 [(l19.getD 0 .junk), (l19.getD 1 .junk), (l19.getD 2 .junk), v22.nod] H20))
 (fun (R21 : List V → Hp → Prop) =>
 C.aBin (Try.prog.underlying 3) .lss v17.nod.nod (I 0) fun (v23 : V) =>
 Jv (fun (v24 : V) (H25 : Hp) =>
 Jv (fun (v32 : V) (H33 : Hp) =>
 R21 [(l12.getD 0 .junk), (l12.getD 1 .junk), (l12.getD 2 .junk), (l12.getD 3 .junk), v32] H33)
 (fun (R34 : V → Hp → Prop) =>
 aG v24.nod false (
 C.aBin (Try.prog.underlying 3) .gtr (l12.getD 3 .junk).nod.nod.nod (I 0) fun (v35 : V) =>
 aG v35.nod true (
 C.aFA 1 1 false (l12.getD 0 .junk).nod fun (v36 : V) =>
 C.aLd 1 false false v36.nod H25 fun (v37 : V) (H38 : Hp) =>
 C.aBin (Try.prog.underlying 3) .sub (l12.getD 3 .junk).nod.nod.nod (I 1) fun (v39 : V) =>
 C.aIx 1 v37.nod v39.nod fun (v40 : V) =>
 C.aLd 1 false false v40.nod H38 fun (v41 : V) (H42 : Hp) =>
 C.aBin (Try.prog.underlying 3) .leq v17.nod.nod v41.nod fun (v43 : V) =>
 R34 v43.nod.nod H42) (
 R34 (B false) H25)) (
 UD = UD ∧
 UD = UD ∧
 UD = UD ∧
 UD = UD ∧
 UD = UD ∧
 UD = UD ∧
 UD = UD ∧
 UD = UD ∧
 R34 (B true) H25)))
 (fun (R26 : V → Hp → Prop) =>
 aG v23.nod false (
 C.aFA 0 1 false (l12.getD 0 .junk).nod fun (v27 : V) =>
 C.aLd 1 false false v27.nod H18 fun (v28 : V) (H29 : Hp) =>
 C.aLen v28.nod fun (v30 : V) =>
 C.aBin (Try.prog.underlying 3) .gtr v17.nod.nod v30.nod fun (v31 : V) =>
 R26 v31.nod H29) (
 R26 (B true) H18)))) (
 C.aFA 1 1 false (l12.getD 0 .junk).nod fun (v44 : V) =>
 C.aLd 1 false false v44.nod H13 fun (v45 : V) (H46 : Hp) =>
 C.aLen v45.nod fun (v47 : V) =>
 C.aBin (Try.prog.underlying 3) .lss v47.nod (I 2) fun (v48 : V) =>
 aCond v48.nod (
 R [(I 2)] H46) (
 R [(I 0)] H46)))
 [(l9.getD 0 .junk), (l9.getD 1 .junk), (l9.getD 2 .junk), (l9.getD 3 .junk)] H10)
 (fun (R11 : List V → Hp → Prop) =>
 C.aFA 1 1 false v1.nod fun (v49 : V) =>
 C.aLd 1 false false v49.nod H7 fun (v50 : V) (H51 : Hp) =>
 C.aLen v50.nod fun (v52 : V) =>
 R11 [v1, v50, v52, (I 0)] H51))
theorem wf69 : (Nat.ble 1 Try.f69.ntmps && wfC an69 Try.f69.ntmps (Try.f69.body.getD .skip)) = true := by kernel_rfl
theorem tie69 (C : Cb) (a0 : V) (H : Hp) (R : List V → Hp → Prop) : wpG Try.prog C an69 (Try.f69.body.getD .skip) (argF [a0]) H (retG Try.prog C Try.f69 R) (fun _ _ _ => False) (retG Try.prog C Try.f69 R) = vc69 C a0 H R := by kernel_rfl
theorem mk69 (a0 : V) {H : Hp} {v : V} {H1 : Hp} (hd : v.Nd) (hn : H.length ≤ H1.length) (hb : H1 = H ∨ ∀ (b : Nat) (blk : Blk), H1[b]? = some blk → H[b]? = some blk ∨ BelB H1.length blk) (h : vc69 (real Try.prog) a0 H (retF v H1)) : Ret Try.prog 69 [a0] H v H1 :=
  ret_mk (an := an69) hm Try.call69 Try.func69 rfl wf69 hd hn hb (Eq.mpr (tie69 (real Try.prog) a0 H (retF v H1)) h)
theorem mko69 (a0 : V) {H : Hp} {xs : List V} {H1 : Hp} (hn : H.length ≤ H1.length) (hb : H1 = H ∨ ∀ (b : Nat) (blk : Blk), H1[b]? = some blk → H[b]? = some blk ∨ BelB H1.length blk) (h : vc69 (real Try.prog) a0 H (retO xs H1)) : Ret Try.prog 69 [a0] H (.arr xs .own) H1 :=
  ret_mko (an := an69) (t := 2) hm Try.call69 Try.func69 rfl wf69 rfl hn hb (Eq.mpr (tie69 (real Try.prog) a0 H (retO xs H1)) h)

/- declaim/join.exists -/
def an70 : An := { imm := [], jn := [], lp := [], loud := [], ord := [] }
def vc70 (C : Cb) (a0 a1 a2 a3 : V) (H : Hp) (R : List V → Hp → Prop) : Prop :=
 C.aBin (Try.prog.underlying 3) .geq a2.nod.nod (I 1) fun (v1 : V) =>
 Jv (fun (v2 : V) (H3 : Hp) =>
 Jv (fun (v7 : V) (H8 : Hp) =>
 Jv (fun (v12 : V) (H13 : Hp) =>
 Jv (fun (v16 : V) (H17 : Hp) =>
 R [v16] H17)
 (fun (R18 : V → Hp → Prop) =>
 aG v12.nod true (
 C.aLen a1.nod.nod fun (v19 : V) =>
 C.aBin (Try.prog.underlying 3) .sub v19.nod a2.nod.nod fun (v20 : V) =>
 C.aBin (Try.prog.underlying 3) .leq a3.nod.nod v20.nod fun (v21 : V) =>
 R18 v21.nod H13) (
 R18 (B false) H13)))
 (fun (R14 : V → Hp → Prop) =>
 aG v7.nod true (
 C.aBin (Try.prog.underlying 3) .geq a3.nod.nod (I 0) fun (v15 : V) =>
 R14 v15.nod H8) (
 R14 (B false) H8)))
 (fun (R9 : V → Hp → Prop) =>
 aG v2.nod true (
 C.aLen a1.nod.nod fun (v10 : V) =>
 C.aBin (Try.prog.underlying 3) .leq a2.nod.nod v10.nod fun (v11 : V) =>
 R9 v11.nod H3) (
 R9 (B false) H3)))
 (fun (R4 : V → Hp → Prop) =>
 aG v1.nod true (
 C.aLen a0.nod.nod fun (v5 : V) =>
 C.aBin (Try.prog.underlying 3) .leq a2.nod.nod v5.nod fun (v6 : V) =>
 R4 v6.nod H) (
 R4 (B false) H))
theorem wf70 : (Nat.ble 4 Try.f70.ntmps && wfC an70 Try.f70.ntmps (Try.f70.body.getD .skip)) = true := by kernel_rfl
theorem tie70 (C : Cb) (a0 a1 a2 a3 : V) (H : Hp) (R : List V → Hp → Prop) : wpG Try.prog C an70 (Try.f70.body.getD .skip) (argF [a0, a1, a2, a3]) H (retG Try.prog C Try.f70 R) (fun _ _ _ => False) (retG Try.prog C Try.f70 R) = vc70 C a0 a1 a2 a3 H R := by kernel_rfl
theorem mk70 (a0 a1 a2 a3 : V) {H : Hp} {v : V} {H1 : Hp} (hd : v.Nd) (hn : H.length ≤ H1.length) (hb : H1 = H ∨ ∀ (b : Nat) (blk : Blk), H1[b]? = some blk → H[b]? = some blk ∨ BelB H1.length blk) (h : vc70 (real Try.prog) a0 a1 a2 a3 H (retF v H1)) : Ret Try.prog 70 [a0, a1, a2, a3] H v H1 :=
  ret_mk (an := an70) hm Try.call70 Try.func70 rfl wf70 hd hn hb (Eq.mpr (tie70 (real Try.prog) a0 a1 a2 a3 H (retF v H1)) h)
theorem mko70 (a0 a1 a2 a3 : V) {H : Hp} {xs : List V} {H1 : Hp} (hn : H.length ≤ H1.length) (hb : H1 = H ∨ ∀ (b : Nat) (blk : Blk), H1[b]? = some blk → H[b]? = some blk ∨ BelB H1.length blk) (h : vc70 (real Try.prog) a0 a1 a2 a3 H (retO xs H1)) : Ret Try.prog 70 [a0, a1, a2, a3] H (.arr xs .own) H1 :=
  ret_mko (an := an70) (t := 8) hm Try.call70 Try.func70 rfl wf70 rfl hn hb (Eq.mpr (tie70 (real Try.prog) a0 a1 a2 a3 H (retO xs H1)) h)

/- declaim/join.rounded -/
def an71 : An := { imm := [], jn := [], lp := [], loud := [], ord := [] }
def vc71 (C : Cb) (a0 a1 : V) (H : Hp) (R : List V → Hp → Prop) : Prop :=
 C.aBin (Try.prog.underlying 3) .lss a0.nod.nod (I 0) fun (v1 : V) =>
 aCond v1.nod (
 C.aUn .neg a0.nod.nod fun (v2 : V) =>
 C.call 71 [v2.nod, a1.nod.nod] H fun (v3 : V) (H4 : Hp) =>
 C.aUn .neg v3.nod fun (v5 : V) =>
 R [v5] H4) (
 C.aBin (Try.prog.underlying 3) .mul (I 2) a0.nod.nod fun (v6 : V) =>
 C.aBin (Try.prog.underlying 3) .add v6.nod a1.nod.nod fun (v7 : V) =>
 C.aBin (Try.prog.underlying 3) .mul (I 2) a1.nod.nod fun (v8 : V) =>
 C.aBin (Try.prog.underlying 3) .quo v7.nod v8.nod fun (v9 : V) =>
 R [v9] H)
theorem wf71 : (Nat.ble 2 Try.f71.ntmps && wfC an71 Try.f71.ntmps (Try.f71.body.getD .skip)) = true := by kernel_rfl
theorem tie71 (C : Cb) (a0 a1 : V) (H : Hp) (R : List V → Hp → Prop) : wpG Try.prog C an71 (Try.f71.body.getD .skip) (argF [a0, a1]) H (retG Try.prog C Try.f71 R) (fun _ _ _ => False) (retG Try.prog C Try.f71 R) = vc71 C a0 a1 H R := by kernel_rfl
theorem mk71 (a0 a1 : V) {H : Hp} {v : V} {H1 : Hp} (hd : v.Nd) (hn : H.length ≤ H1.length) (hb : H1 = H ∨ ∀ (b : Nat) (blk : Blk), H1[b]? = some blk → H[b]? = some blk ∨ BelB H1.length blk) (h : vc71 (real Try.prog) a0 a1 H (retF v H1)) : Ret Try.prog 71 [a0, a1] H v H1 :=
  ret_mk (an := an71) hm Try.call71 Try.func71 rfl wf71 hd hn hb (Eq.mpr (tie71 (real Try.prog) a0 a1 H (retF v H1)) h)
theorem mko71 (a0 a1 : V) {H : Hp} {xs : List V} {H1 : Hp} (hn : H.length ≤ H1.length) (hb : H1 = H ∨ ∀ (b : Nat) (blk : Blk), H1[b]? = some blk → H[b]? = some blk ∨ BelB H1.length blk) (h : vc71 (real Try.prog) a0 a1 H (retO xs H1)) : Ret Try.prog 71 [a0, a1] H (.arr xs .own) H1 :=
  ret_mko (an := an71) (t := 4) hm Try.call71 Try.func71 rfl wf71 rfl hn hb (Eq.mpr (tie71 (real Try.prog) a0 a1 H (retO xs H1)) h)

/- declaim/declaimref07.clip -/
def an72 : An := { imm := [], jn := [], lp := [], loud := [], ord := [] }
def vc72 (C : Cb) (a0 : V) (H : Hp) (R : List V → Hp → Prop) : Prop :=
 C.aMM false [(I 32767), a0.nod.nod] fun (v1 : V) =>
 C.aMM true [(I (-32768)), v1.nod] fun (v2 : V) =>
 R [v2] H
theorem wf72 : (Nat.ble 1 Try.f72.ntmps && wfC an72 Try.f72.ntmps (Try.f72.body.getD .skip)) = true := by kernel_rfl
theorem tie72 (C : Cb) (a0 : V) (H : Hp) (R : List V → Hp → Prop) : wpG Try.prog C an72 (Try.f72.body.getD .skip) (argF [a0]) H (retG Try.prog C Try.f72 R) (fun _ _ _ => False) (retG Try.prog C Try.f72 R) = vc72 C a0 H R := by kernel_rfl
theorem mk72 (a0 : V) {H : Hp} {v : V} {H1 : Hp} (hd : v.Nd) (hn : H.length ≤ H1.length) (hb : H1 = H ∨ ∀ (b : Nat) (blk : Blk), H1[b]? = some blk → H[b]? = some blk ∨ BelB H1.length blk) (h : vc72 (real Try.prog) a0 H (retF v H1)) : Ret Try.prog 72 [a0] H v H1 :=
  ret_mk (an := an72) hm Try.call72 Try.func72 rfl wf72 hd hn hb (Eq.mpr (tie72 (real Try.prog) a0 H (retF v H1)) h)
theorem mko72 (a0 : V) {H : Hp} {xs : List V} {H1 : Hp} (hn : H.length ≤ H1.length) (hb : H1 = H ∨ ∀ (b : Nat) (blk : Blk), H1[b]? = some blk → H[b]? = some blk ∨ BelB H1.length blk) (h : vc72 (real Try.prog) a0 H (retO xs H1)) : Ret Try.prog 72 [a0] H (.arr xs .own) H1 :=
  ret_mko (an := an72) (t := 2) hm Try.call72 Try.func72 rfl wf72 rfl hn hb (Eq.mpr (tie72 (real Try.prog) a0 H (retO xs H1)) h)

/- declaim/join.wave -/
def an73 : An := { imm := [], jn := [], lp := [], loud := [], ord := [] }
def vc73 (C : Cb) (a0 : V) (H : Hp) (R : List V → Hp → Prop) : Prop :=
 C.aLen a0.nod.nod fun (v1 : V) =>
 C.aBin (Try.prog.underlying 3) .gtr v1.nod (I 100000) fun (v2 : V) =>
 aCond v2.nod (
 R [(I 4)] H) (
 C.call 87 [a0.nod.nod, (V.fn 88 [])] H fun (v3 : V) (H4 : Hp) =>
 aCond v3.nod (
 R [(I 2)] H4) (
 R [(I 0)] H4))
theorem wf73 : (Nat.ble 1 Try.f73.ntmps && wfC an73 Try.f73.ntmps (Try.f73.body.getD .skip)) = true := by kernel_rfl
theorem tie73 (C : Cb) (a0 : V) (H : Hp) (R : List V → Hp → Prop) : wpG Try.prog C an73 (Try.f73.body.getD .skip) (argF [a0]) H (retG Try.prog C Try.f73 R) (fun _ _ _ => False) (retG Try.prog C Try.f73 R) = vc73 C a0 H R := by kernel_rfl
theorem mk73 (a0 : V) {H : Hp} {v : V} {H1 : Hp} (hd : v.Nd) (hn : H.length ≤ H1.length) (hb : H1 = H ∨ ∀ (b : Nat) (blk : Blk), H1[b]? = some blk → H[b]? = some blk ∨ BelB H1.length blk) (h : vc73 (real Try.prog) a0 H (retF v H1)) : Ret Try.prog 73 [a0] H v H1 :=
  ret_mk (an := an73) hm Try.call73 Try.func73 rfl wf73 hd hn hb (Eq.mpr (tie73 (real Try.prog) a0 H (retF v H1)) h)
theorem mko73 (a0 : V) {H : Hp} {xs : List V} {H1 : Hp} (hn : H.length ≤ H1.length) (hb : H1 = H ∨ ∀ (b : Nat) (blk : Blk), H1[b]? = some blk → H[b]? = some blk ∨ BelB H1.length blk) (h : vc73 (real Try.prog) a0 H (retO xs H1)) : Ret Try.prog 73 [a0] H (.arr xs .own) H1 :=
  ret_mko (an := an73) (t := 2) hm Try.call73 Try.func73 rfl wf73 rfl hn hb (Eq.mpr (tie73 (real Try.prog) a0 H (retO xs H1)) h)

/- declaim/join.loudness -/
def an74 : An := { imm := [], jn := [], lp := [], loud := [], ord := [] }
def vc74 (C : Cb) (a0 : V) (H : Hp) (R : List V → Hp → Prop) : Prop :=
 C.call 90 [a0.nod.nod] H fun (v1 : V) (H2 : Hp) =>
 C.aLen a0.nod.nod fun (v3 : V) =>
 C.aBin (Try.prog.underlying 3) .quo v1.nod v3.nod fun (v4 : V) =>
 C.call 89 [v4.nod] H2 fun (v5 : V) (H6 : Hp) =>
 R [v5] H6
theorem wf74 : (Nat.ble 1 Try.f74.ntmps && wfC an74 Try.f74.ntmps (Try.f74.body.getD .skip)) = true := by kernel_rfl
theorem tie74 (C : Cb) (a0 : V) (H : Hp) (R : List V → Hp → Prop) : wpG Try.prog C an74 (Try.f74.body.getD .skip) (argF [a0]) H (retG Try.prog C Try.f74 R) (fun _ _ _ => False) (retG Try.prog C Try.f74 R) = vc74 C a0 H R := by kernel_rfl
theorem mk74 (a0 : V) {H : Hp} {v : V} {H1 : Hp} (hd : v.Nd) (hn : H.length ≤ H1.length) (hb : H1 = H ∨ ∀ (b : Nat) (blk : Blk), H1[b]? = some blk → H[b]? = some blk ∨ BelB H1.length blk) (h : vc74 (real Try.prog) a0 H (retF v H1)) : Ret Try.prog 74 [a0] H v H1 :=
  ret_mk (an := an74) hm Try.call74 Try.func74 rfl wf74 hd hn hb (Eq.mpr (tie74 (real Try.prog) a0 H (retF v H1)) h)
theorem mko74 (a0 : V) {H : Hp} {xs : List V} {H1 : Hp} (hn : H.length ≤ H1.length) (hb : H1 = H ∨ ∀ (b : Nat) (blk : Blk), H1[b]? = some blk → H[b]? = some blk ∨ BelB H1.length blk) (h : vc74 (real Try.prog) a0 H (retO xs H1)) : Ret Try.prog 74 [a0] H (.arr xs .own) H1 :=
  ret_mko (an := an74) (t := 2) hm Try.call74 Try.func74 rfl wf74 rfl hn hb (Eq.mpr (tie74 (real Try.prog) a0 H (retO xs H1)) h)

/- declaim/join.gained -/
def an75 : An := { imm := [], jn := [], lp := [], loud := [], ord := [] }
def vc75 (C : Cb) (a0 a1 a2 : V) (H : Hp) (R : List V → Hp → Prop) : Prop :=
 C.aBin (Try.prog.underlying 3) .mul a0.nod.nod a1.nod.nod fun (v1 : V) =>
 C.call 71 [v1.nod, a2.nod.nod] H fun (v2 : V) (H3 : Hp) =>
 R [v2] H3
theorem wf75 : (Nat.ble 3 Try.f75.ntmps && wfC an75 Try.f75.ntmps (Try.f75.body.getD .skip)) = true := by kernel_rfl
theorem tie75 (C : Cb) (a0 a1 a2 : V) (H : Hp) (R : List V → Hp → Prop) : wpG Try.prog C an75 (Try.f75.body.getD .skip) (argF [a0, a1, a2]) H (retG Try.prog C Try.f75 R) (fun _ _ _ => False) (retG Try.prog C Try.f75 R) = vc75 C a0 a1 a2 H R := by kernel_rfl
theorem mk75 (a0 a1 a2 : V) {H : Hp} {v : V} {H1 : Hp} (hd : v.Nd) (hn : H.length ≤ H1.length) (hb : H1 = H ∨ ∀ (b : Nat) (blk : Blk), H1[b]? = some blk → H[b]? = some blk ∨ BelB H1.length blk) (h : vc75 (real Try.prog) a0 a1 a2 H (retF v H1)) : Ret Try.prog 75 [a0, a1, a2] H v H1 :=
  ret_mk (an := an75) hm Try.call75 Try.func75 rfl wf75 hd hn hb (Eq.mpr (tie75 (real Try.prog) a0 a1 a2 H (retF v H1)) h)
theorem mko75 (a0 a1 a2 : V) {H : Hp} {xs : List V} {H1 : Hp} (hn : H.length ≤ H1.length) (hb : H1 = H ∨ ∀ (b : Nat) (blk : Blk), H1[b]? = some blk → H[b]? = some blk ∨ BelB H1.length blk) (h : vc75 (real Try.prog) a0 a1 a2 H (retO xs H1)) : Ret Try.prog 75 [a0, a1, a2] H (.arr xs .own) H1 :=
  ret_mko (an := an75) (t := 6) hm Try.call75 Try.func75 rfl wf75 rfl hn hb (Eq.mpr (tie75 (real Try.prog) a0 a1 a2 H (retO xs H1)) h)

/- declaim/join.clips -/
def an76 : An := { imm := [], jn := [], lp := [], loud := [], ord := [] }
def vc76 (C : Cb) (a0 : V) (H : Hp) (R : List V → Hp → Prop) : Prop :=
 C.aBin (Try.prog.underlying 3) .lss a0.nod.nod (I (-32768)) fun (v1 : V) =>
 Jv (fun (v2 : V) (H3 : Hp) =>
 R [v2] H3)
 (fun (R4 : V → Hp → Prop) =>
 aG v1.nod false (
 C.aBin (Try.prog.underlying 3) .gtr a0.nod.nod (I 32767) fun (v5 : V) =>
 R4 v5.nod H) (
 R4 (B true) H))
theorem wf76 : (Nat.ble 1 Try.f76.ntmps && wfC an76 Try.f76.ntmps (Try.f76.body.getD .skip)) = true := by kernel_rfl
theorem tie76 (C : Cb) (a0 : V) (H : Hp) (R : List V → Hp → Prop) : wpG Try.prog C an76 (Try.f76.body.getD .skip) (argF [a0]) H (retG Try.prog C Try.f76 R) (fun _ _ _ => False) (retG Try.prog C Try.f76 R) = vc76 C a0 H R := by kernel_rfl
theorem mk76 (a0 : V) {H : Hp} {v : V} {H1 : Hp} (hd : v.Nd) (hn : H.length ≤ H1.length) (hb : H1 = H ∨ ∀ (b : Nat) (blk : Blk), H1[b]? = some blk → H[b]? = some blk ∨ BelB H1.length blk) (h : vc76 (real Try.prog) a0 H (retF v H1)) : Ret Try.prog 76 [a0] H v H1 :=
  ret_mk (an := an76) hm Try.call76 Try.func76 rfl wf76 hd hn hb (Eq.mpr (tie76 (real Try.prog) a0 H (retF v H1)) h)
theorem mko76 (a0 : V) {H : Hp} {xs : List V} {H1 : Hp} (hn : H.length ≤ H1.length) (hb : H1 = H ∨ ∀ (b : Nat) (blk : Blk), H1[b]? = some blk → H[b]? = some blk ∨ BelB H1.length blk) (h : vc76 (real Try.prog) a0 H (retO xs H1)) : Ret Try.prog 76 [a0] H (.arr xs .own) H1 :=
  ret_mko (an := an76) (t := 2) hm Try.call76 Try.func76 rfl wf76 rfl hn hb (Eq.mpr (tie76 (real Try.prog) a0 H (retO xs H1)) h)

/- declaim/join.loudest -/
def an77 : An := { imm := [3], jn := [(4, [3, 5, 6])], lp := [], loud := [], ord := [] }
def vc77 (C : Cb) (a0 a1 : V) (H : Hp) (R : List V → Hp → Prop) : Prop :=
 C.aBx true 1 a1.nod H fun (v1 : V) (H2 : Hp) =>
 C.aLen a0.nod.nod fun (v3 : V) =>
 C.aBin (Try.prog.underlying 3) .eql v3.nod (I 0) fun (v4 : V) =>
 aCond v4.nod (
 R [(I 1000000)] H2) (
 Jn (fun (l5 : List V) (H6 : Hp) =>
 C.call 79 [(V.fn 93 [(l5.getD 1 .junk).nod, (l5.getD 0 .junk).nod, (l5.getD 2 .junk).nod])] H6 fun (v8 : V) (H9 : Hp) =>
 R [v8] H9)
 (fun (R7 : List V → Hp → Prop) =>
 C.call 91 [a0.nod.nod] H2 fun (v10 : V) (H11 : Hp) =>
 C.call 92 [a0.nod.nod] H11 fun (v12 : V) (H13 : Hp) =>
 C.aBx false 1 (I 0) H13 fun (v14 : V) (H15 : Hp) =>
 C.aBx false 1 (I 0) H15 fun (v16 : V) (H17 : Hp) =>
 C.aSt 1 v14.nod v10 H17 fun (v18 : V) (H19 : Hp) =>
 C.aSt 1 v16.nod v12 H19 fun (v20 : V) (H21 : Hp) =>
 R7 [v1, v14, v16] H21))
theorem wf77 : (Nat.ble 2 Try.f77.ntmps && wfC an77 Try.f77.ntmps (Try.f77.body.getD .skip)) = true := by kernel_rfl
theorem tie77 (C : Cb) (a0 a1 : V) (H : Hp) (R : List V → Hp → Prop) : wpG Try.prog C an77 (Try.f77.body.getD .skip) (argF [a0, a1]) H (retG Try.prog C Try.f77 R) (fun _ _ _ => False) (retG Try.prog C Try.f77 R) = vc77 C a0 a1 H R := by kernel_rfl
theorem mk77 (a0 a1 : V) {H : Hp} {v : V} {H1 : Hp} (hd : v.Nd) (hn : H.length ≤ H1.length) (hb : H1 = H ∨ ∀ (b : Nat) (blk : Blk), H1[b]? = some blk → H[b]? = some blk ∨ BelB H1.length blk) (h : vc77 (real Try.prog) a0 a1 H (retF v H1)) : Ret Try.prog 77 [a0, a1] H v H1 :=
  ret_mk (an := an77) hm Try.call77 Try.func77 rfl wf77 hd hn hb (Eq.mpr (tie77 (real Try.prog) a0 a1 H (retF v H1)) h)
theorem mko77 (a0 a1 : V) {H : Hp} {xs : List V} {H1 : Hp} (hn : H.length ≤ H1.length) (hb : H1 = H ∨ ∀ (b : Nat) (blk : Blk), H1[b]? = some blk → H[b]? = some blk ∨ BelB H1.length blk) (h : vc77 (real Try.prog) a0 a1 H (retO xs H1)) : Ret Try.prog 77 [a0, a1] H (.arr xs .own) H1 :=
  ret_mko (an := an77) (t := 4) hm Try.call77 Try.func77 rfl wf77 rfl hn hb (Eq.mpr (tie77 (real Try.prog) a0 a1 H (retO xs H1)) h)

/- declaim/join.Level$1 -/
def an78 : An := { imm := [], jn := [], lp := [(2, [0, 2, 7, 8, 9])], loud := [], ord := [] }
def vc78 (C : Cb) (a0 a1 a2 : V) (H : Hp) (R : List V → Hp → Prop) : Prop :=
 C.aLd 1 false false a1.nod H fun (v1 : V) (H2 : Hp) =>
 C.aLen v1.nod fun (v3 : V) =>
 LoopA (fun (l4 : List V) (H5 : Hp) (K6 : List V → Hp → Prop) =>
 C.aBin (Try.prog.underlying 3) .lss (l4.getD 4 .junk).nod (l4.getD 3 .junk).nod fun (v7 : V) =>
 aCond v7.nod (
 C.aIx 1 (l4.getD 2 .junk).nod (l4.getD 4 .junk).nod fun (v8 : V) =>
 C.aLd 1 false false v8.nod H5 fun (v9 : V) (H10 : Hp) =>
 C.aLd 1 false false (l4.getD 1 .junk).nod H10 fun (v11 : V) (H12 : Hp) =>
 C.calm 75 [v9.nod.nod, (l4.getD 0 .junk).nod.nod, (I 1000)] H12 fun (v13 : V) =>
 C.aIx 1 v11.nod (l4.getD 4 .junk).nod.nod.nod fun (v14 : V) =>
 C.aSt 1 v14.nod v13 H12 fun (v15 : V) (H16 : Hp) =>
 C.aBin (Try.prog.underlying 3) .add (l4.getD 4 .junk).nod (I 1) fun (v17 : V) =>
 K6 [(l4.getD 0 .junk), (l4.getD 1 .junk), (l4.getD 2 .junk), (l4.getD 3 .junk), v17.nod] H16) (
 C.aLd 1 false false (l4.getD 1 .junk).nod H5 fun (v18 : V) (H19 : Hp) =>
 R [v18] H19))
 [a0, a2, v1, v3, (I 0)] H2
theorem wf78 : (Nat.ble 3 Try.f78.ntmps && wfC an78 Try.f78.ntmps (Try.f78.body.getD .skip)) = true := by kernel_rfl
theorem tie78 (C : Cb) (a0 a1 a2 : V) (H : Hp) (R : List V → Hp → Prop) : wpG Try.prog C an78 (Try.f78.body.getD .skip) (argF [a0, a1, a2]) H (retG Try.prog C Try.f78 R) (fun _ _ _ => False) (retG Try.prog C Try.f78 R) = vc78 C a0 a1 a2 H R := by kernel_rfl
theorem mk78 (a0 a1 a2 : V) {H : Hp} {v : V} {H1 : Hp} (hd : v.Nd) (hn : H.length ≤ H1.length) (hb : H1 = H ∨ ∀ (b : Nat) (blk : Blk), H1[b]? = some blk → H[b]? = some blk ∨ BelB H1.length blk) (h : vc78 (real Try.prog) a0 a1 a2 H (retF v H1)) : Ret Try.prog 78 [a0, a1, a2] H v H1 :=
  ret_mk (an := an78) hm Try.call78 Try.func78 rfl wf78 hd hn hb (Eq.mpr (tie78 (real Try.prog) a0 a1 a2 H (retF v H1)) h)
theorem mko78 (a0 a1 a2 : V) {H : Hp} {xs : List V} {H1 : Hp} (hn : H.length ≤ H1.length) (hb : H1 = H ∨ ∀ (b : Nat) (blk : Blk), H1[b]? = some blk → H[b]? = some blk ∨ BelB H1.length blk) (h : vc78 (real Try.prog) a0 a1 a2 H (retO xs H1)) : Ret Try.prog 78 [a0, a1, a2] H (.arr xs .own) H1 :=
  ret_mko (an := an78) (t := 4) hm Try.call78 Try.func78 rfl wf78 rfl hn hb (Eq.mpr (tie78 (real Try.prog) a0 a1 a2 H (retO xs H1)) h)

/- declaim/join.greatest -/
def an79 : An := { imm := [], jn := [(5, [0, 3, 4, 5, 16])], lp := [(2, [0, 3, 4])], loud := [], ord := [] }
def vc79 (C : Cb) (a0 : V) (H : Hp) (R : List V → Hp → Prop) : Prop :=
 LoopA (fun (l1 : List V) (H2 : Hp) (K3 : List V → Hp → Prop) =>
 C.aBin (Try.prog.underlying 3) .sub (l1.getD 2 .junk).nod.nod (l1.getD 1 .junk).nod.nod fun (v4 : V) =>
 C.aBin (Try.prog.underlying 3) .gtr v4.nod (I 1) fun (v5 : V) =>
 aCond v5.nod (
 C.aBin (Try.prog.underlying 3) .add (l1.getD 1 .junk).nod.nod (l1.getD 2 .junk).nod.nod fun (v6 : V) =>
 C.aBin (Try.prog.underlying 3) .quo v6.nod (I 2) fun (v7 : V) =>
 Jn (fun (l8 : List V) (H9 : Hp) =>
 aCond (l8.getD 4 .junk).nod (
 K3 [(l8.getD 0 .junk), (l8.getD 3 .junk).nod, (l8.getD 2 .junk)] H9) (
 K3 [(l8.getD 0 .junk), (l8.getD 1 .junk), (l8.getD 3 .junk).nod] H9))
 (fun (R10 : List V → Hp → Prop) =>
 aCallG C (l1.getD 0 .junk).nod.nod [v7.nod.nod] H2 fun (v11 : V) (H12 : Hp) =>
 R10 [(l1.getD 0 .junk), (l1.getD 1 .junk), (l1.getD 2 .junk), v7, v11] H12)) (
 R [(l1.getD 1 .junk).nod] H2))
 [a0, (I 0), (I 1000001)] H
theorem wf79 : (Nat.ble 1 Try.f79.ntmps && wfC an79 Try.f79.ntmps (Try.f79.body.getD .skip)) = true := by kernel_rfl
theorem tie79 (C : Cb) (a0 : V) (H : Hp) (R : List V → Hp → Prop) : wpG Try.prog C an79 (Try.f79.body.getD .skip) (argF [a0]) H (retG Try.prog C Try.f79 R) (fun _ _ _ => False) (retG Try.prog C Try.f79 R) = vc79 C a0 H R := by kernel_rfl
theorem mk79 (a0 : V) {H : Hp} {v : V} {H1 : Hp} (hd : v.Nd) (hn : H.length ≤ H1.length) (hb : H1 = H ∨ ∀ (b : Nat) (blk : Blk), H1[b]? = some blk → H[b]? = some blk ∨ BelB H1.length blk) (h : vc79 (real Try.prog) a0 H (retF v H1)) : Ret Try.prog 79 [a0] H v H1 :=
  ret_mk (an := an79) hm Try.call79 Try.func79 rfl wf79 hd hn hb (Eq.mpr (tie79 (real Try.prog) a0 H (retF v H1)) h)
theorem mko79 (a0 : V) {H : Hp} {xs : List V} {H1 : Hp} (hn : H.length ≤ H1.length) (hb : H1 = H ∨ ∀ (b : Nat) (blk : Blk), H1[b]? = some blk → H[b]? = some blk ∨ BelB H1.length blk) (h : vc79 (real Try.prog) a0 H (retO xs H1)) : Ret Try.prog 79 [a0] H (.arr xs .own) H1 :=
  ret_mko (an := an79) (t := 2) hm Try.call79 Try.func79 rfl wf79 rfl hn hb (Eq.mpr (tie79 (real Try.prog) a0 H (retO xs H1)) h)

/- declaim/join.Level$2 -/
def an80 : An := { imm := [], jn := [], lp := [], loud := [12], ord := [(1, [(6, 8)], [[0, 1, 2, 3, 4, 5, 8, 6, 7, 9, 10, 11], [0, 1, 2, 3, 4, 5, 6, 7, 8, 9, 10, 11]])] }
def vc80 (C : Cb) (a0 a1 a2 a3 : V) (H : Hp) (R : List V → Hp → Prop) : Prop :=
 (C.aLd 1 false false a1.nod H fun (v1 : V) (H2 : Hp) =>
 C.aBin (Try.prog.underlying 3) .leq a0.nod.nod v1.nod fun (v3 : V) =>
 Jv (fun (v4 : V) (H5 : Hp) =>
 R [v4] H5)
 (fun (R6 : V → Hp → Prop) =>
 aG v3.nod true (
 C.aLd 1 false false a2.nod H2 fun (v7 : V) (H8 : Hp) =>
 C.aLd 1 false false a3.nod H8 fun (v9 : V) (H10 : Hp) =>
 aCallG C v7.nod [a0.nod.nod] H10 fun (v11 : V) (H12 : Hp) =>
 C.calm 74 [v11.nod] H12 fun (v13 : V) =>
 C.aBin (Try.prog.underlying 3) .leq v13.nod v9.nod fun (v14 : V) =>
 R6 v14.nod H12) (
 R6 (B false) H2))) ∧ (C.aLd 1 false false a1.nod H fun (v15 : V) (H16 : Hp) =>
 C.aBin (Try.prog.underlying 3) .leq a0.nod.nod v15.nod fun (v17 : V) =>
 Jv (fun (v18 : V) (H19 : Hp) =>
 R [v18] H19)
 (fun (R20 : V → Hp → Prop) =>
 aG v17.nod true (
 C.aLd 1 false false a2.nod H16 fun (v21 : V) (H22 : Hp) =>
 aCallG C v21.nod [a0.nod.nod] H22 fun (v23 : V) (H24 : Hp) =>
 C.calm 74 [v23.nod] H24 fun (v25 : V) =>
 C.aLd 1 false false a3.nod H24 fun (v26 : V) (H27 : Hp) =>
 C.aBin (Try.prog.underlying 3) .leq v25.nod v26.nod fun (v28 : V) =>
 R20 v28.nod H27) (
 R20 (B false) H16)))
theorem wf80 : (Nat.ble 4 Try.f80.ntmps && wfC an80 Try.f80.ntmps (Try.f80.body.getD .skip)) = true := by kernel_rfl
theorem tie80 (C : Cb) (a0 a1 a2 a3 : V) (H : Hp) (R : List V → Hp → Prop) : wpG Try.prog C an80 (Try.f80.body.getD .skip) (argF [a0, a1, a2, a3]) H (retG Try.prog C Try.f80 R) (fun _ _ _ => False) (retG Try.prog C Try.f80 R) = vc80 C a0 a1 a2 a3 H R := by kernel_rfl
theorem mk80 (a0 a1 a2 a3 : V) {H : Hp} {v : V} {H1 : Hp} (hd : v.Nd) (hn : H.length ≤ H1.length) (hb : H1 = H ∨ ∀ (b : Nat) (blk : Blk), H1[b]? = some blk → H[b]? = some blk ∨ BelB H1.length blk) (h : vc80 (real Try.prog) a0 a1 a2 a3 H (retF v H1)) : Ret Try.prog 80 [a0, a1, a2, a3] H v H1 :=
  ret_mk (an := an80) hm Try.call80 Try.func80 rfl wf80 hd hn hb (Eq.mpr (tie80 (real Try.prog) a0 a1 a2 a3 H (retF v H1)) h)
theorem mko80 (a0 a1 a2 a3 : V) {H : Hp} {xs : List V} {H1 : Hp} (hn : H.length ≤ H1.length) (hb : H1 = H ∨ ∀ (b : Nat) (blk : Blk), H1[b]? = some blk → H[b]? = some blk ∨ BelB H1.length blk) (h : vc80 (real Try.prog) a0 a1 a2 a3 H (retO xs H1)) : Ret Try.prog 80 [a0, a1, a2, a3] H (.arr xs .own) H1 :=
  ret_mko (an := an80) (t := 5) hm Try.call80 Try.func80 rfl wf80 rfl hn hb (Eq.mpr (tie80 (real Try.prog) a0 a1 a2 a3 H (retO xs H1)) h)

/- slices.ContainsFunc[[][]int,[]int] -/
def an81 : An := { imm := [], jn := [], lp := [], loud := [], ord := [] }
def vc81 (C : Cb) (a0 a1 : V) (H : Hp) (R : List V → Hp → Prop) : Prop :=
 C.call 94 [a0.nod.nod, a1.nod.nod] H fun (v1 : V) (H2 : Hp) =>
 C.aBin (Try.prog.underlying 3) .geq v1.nod (I 0) fun (v3 : V) =>
 R [v3] H2
theorem wf81 : (Nat.ble 2 Try.f81.ntmps && wfC an81 Try.f81.ntmps (Try.f81.body.getD .skip)) = true := by kernel_rfl
theorem tie81 (C : Cb) (a0 a1 : V) (H : Hp) (R : List V → Hp → Prop) : wpG Try.prog C an81 (Try.f81.body.getD .skip) (argF [a0, a1]) H (retG Try.prog C Try.f81 R) (fun _ _ _ => False) (retG Try.prog C Try.f81 R) = vc81 C a0 a1 H R := by kernel_rfl
theorem mk81 (a0 a1 : V) {H : Hp} {v : V} {H1 : Hp} (hd : v.Nd) (hn : H.length ≤ H1.length) (hb : H1 = H ∨ ∀ (b : Nat) (blk : Blk), H1[b]? = some blk → H[b]? = some blk ∨ BelB H1.length blk) (h : vc81 (real Try.prog) a0 a1 H (retF v H1)) : Ret Try.prog 81 [a0, a1] H v H1 :=
  ret_mk (an := an81) hm Try.call81 Try.func81 rfl wf81 hd hn hb (Eq.mpr (tie81 (real Try.prog) a0 a1 H (retF v H1)) h)
theorem mko81 (a0 a1 : V) {H : Hp} {xs : List V} {H1 : Hp} (hn : H.length ≤ H1.length) (hb : H1 = H ∨ ∀ (b : Nat) (blk : Blk), H1[b]? = some blk → H[b]? = some blk ∨ BelB H1.length blk) (h : vc81 (real Try.prog) a0 a1 H (retO xs H1)) : Ret Try.prog 81 [a0, a1] H (.arr xs .own) H1 :=
  ret_mko (an := an81) (t := 4) hm Try.call81 Try.func81 rfl wf81 rfl hn hb (Eq.mpr (tie81 (real Try.prog) a0 a1 H (retO xs H1)) h)

/- declaim/join.waves$1 -/
def an82 : An := { imm := [], jn := [], lp := [], loud := [], ord := [] }
def vc82 (C : Cb) (a0 : V) (H : Hp) (R : List V → Hp → Prop) : Prop :=
 C.aLen a0.nod.nod fun (v1 : V) =>
 C.aBin (Try.prog.underlying 3) .gtr v1.nod (I 100000) fun (v2 : V) =>
 R [v2] H
theorem wf82 : (Nat.ble 1 Try.f82.ntmps && wfC an82 Try.f82.ntmps (Try.f82.body.getD .skip)) = true := by kernel_rfl
theorem tie82 (C : Cb) (a0 : V) (H : Hp) (R : List V → Hp → Prop) : wpG Try.prog C an82 (Try.f82.body.getD .skip) (argF [a0]) H (retG Try.prog C Try.f82 R) (fun _ _ _ => False) (retG Try.prog C Try.f82 R) = vc82 C a0 H R := by kernel_rfl
theorem mk82 (a0 : V) {H : Hp} {v : V} {H1 : Hp} (hd : v.Nd) (hn : H.length ≤ H1.length) (hb : H1 = H ∨ ∀ (b : Nat) (blk : Blk), H1[b]? = some blk → H[b]? = some blk ∨ BelB H1.length blk) (h : vc82 (real Try.prog) a0 H (retF v H1)) : Ret Try.prog 82 [a0] H v H1 :=
  ret_mk (an := an82) hm Try.call82 Try.func82 rfl wf82 hd hn hb (Eq.mpr (tie82 (real Try.prog) a0 H (retF v H1)) h)
theorem mko82 (a0 : V) {H : Hp} {xs : List V} {H1 : Hp} (hn : H.length ≤ H1.length) (hb : H1 = H ∨ ∀ (b : Nat) (blk : Blk), H1[b]? = some blk → H[b]? = some blk ∨ BelB H1.length blk) (h : vc82 (real Try.prog) a0 H (retO xs H1)) : Ret Try.prog 82 [a0] H (.arr xs .own) H1 :=
  ret_mko (an := an82) (t := 2) hm Try.call82 Try.func82 rfl wf82 rfl hn hb (Eq.mpr (tie82 (real Try.prog) a0 H (retO xs H1)) h)

/- declaim/join.waves$2 -/
def an83 : An := { imm := [], jn := [], lp := [], loud := [], ord := [] }
def vc83 (C : Cb) (a0 : V) (H : Hp) (R : List V → Hp → Prop) : Prop :=
 C.call 73 [a0.nod.nod] H fun (v1 : V) (H2 : Hp) =>
 C.aBin (Try.prog.underlying 25) .neq v1.nod (I 0) fun (v3 : V) =>
 R [v3] H2
theorem wf83 : (Nat.ble 1 Try.f83.ntmps && wfC an83 Try.f83.ntmps (Try.f83.body.getD .skip)) = true := by kernel_rfl
theorem tie83 (C : Cb) (a0 : V) (H : Hp) (R : List V → Hp → Prop) : wpG Try.prog C an83 (Try.f83.body.getD .skip) (argF [a0]) H (retG Try.prog C Try.f83 R) (fun _ _ _ => False) (retG Try.prog C Try.f83 R) = vc83 C a0 H R := by kernel_rfl
theorem mk83 (a0 : V) {H : Hp} {v : V} {H1 : Hp} (hd : v.Nd) (hn : H.length ≤ H1.length) (hb : H1 = H ∨ ∀ (b : Nat) (blk : Blk), H1[b]? = some blk → H[b]? = some blk ∨ BelB H1.length blk) (h : vc83 (real Try.prog) a0 H (retF v H1)) : Ret Try.prog 83 [a0] H v H1 :=
  ret_mk (an := an83) hm Try.call83 Try.func83 rfl wf83 hd hn hb (Eq.mpr (tie83 (real Try.prog) a0 H (retF v H1)) h)
theorem mko83 (a0 : V) {H : Hp} {xs : List V} {H1 : Hp} (hn : H.length ≤ H1.length) (hb : H1 = H ∨ ∀ (b : Nat) (blk : Blk), H1[b]? = some blk → H[b]? = some blk ∨ BelB H1.length blk) (h : vc83 (real Try.prog) a0 H (retO xs H1)) : Ret Try.prog 83 [a0] H (.arr xs .own) H1 :=
  ret_mko (an := an83) (t := 2) hm Try.call83 Try.func83 rfl wf83 rfl hn hb (Eq.mpr (tie83 (real Try.prog) a0 H (retO xs H1)) h)

/- (declaim/join.ratio).right -/
def an84 : An := { imm := [1], jn := [], lp := [], loud := [], ord := [] }
def vc84 (C : Cb) (a0 : V) (H : Hp) (R : List V → Hp → Prop) : Prop :=
 C.aBx true 2 a0.nod H fun (v1 : V) (H2 : Hp) =>
 C.aFA 0 1 false v1.nod fun (v3 : V) =>
 C.aLd 1 false false v3.nod H2 fun (v4 : V) (H5 : Hp) =>
 C.call 95 [v4.nod] H5 fun (v6 : V) (H7 : Hp) =>
 Jv (fun (v8 : V) (H9 : Hp) =>
 Jv (fun (v16 : V) (H17 : Hp) =>
 Jv (fun (v27 : V) (H28 : Hp) =>
 R [v27] H28)
 (fun (R29 : V → Hp → Prop) =>
 aG v16.nod true (
 C.aFA 1 1 false v1.nod fun (v30 : V) =>
 C.aLd 1 false false v30.nod H17 fun (v31 : V) (H32 : Hp) =>
 C.aFA 0 1 false v1.nod fun (v33 : V) =>
 C.aLd 1 false false v33.nod H32 fun (v34 : V) (H35 : Hp) =>
 C.aBin (Try.prog.underlying 3) .mul (I 16) v34.nod fun (v36 : V) =>
 C.aBin (Try.prog.underlying 3) .leq v31.nod v36.nod fun (v37 : V) =>
 R29 v37.nod H35) (
 R29 (B false) H17)))
 (fun (R18 : V → Hp → Prop) =>
 aG v8.nod true (
 C.aFA 0 1 false v1.nod fun (v19 : V) =>
 C.aLd 1 false false v19.nod H9 fun (v20 : V) (H21 : Hp) =>
 C.aFA 1 1 false v1.nod fun (v22 : V) =>
 C.aLd 1 false false v22.nod H21 fun (v23 : V) (H24 : Hp) =>
 C.aBin (Try.prog.underlying 3) .mul (I 16) v23.nod fun (v25 : V) =>
 C.aBin (Try.prog.underlying 3) .leq v20.nod v25.nod fun (v26 : V) =>
 R18 v26.nod H24) (
 R18 (B false) H9)))
 (fun (R10 : V → Hp → Prop) =>
 aG v6.nod true (
 C.aFA 1 1 false v1.nod fun (v11 : V) =>
 C.aLd 1 false false v11.nod H7 fun (v12 : V) (H13 : Hp) =>
 C.call 95 [v12.nod] H13 fun (v14 : V) (H15 : Hp) =>
 R10 v14.nod H15) (
 R10 (B false) H7))
theorem wf84 : (Nat.ble 1 Try.f84.ntmps && wfC an84 Try.f84.ntmps (Try.f84.body.getD .skip)) = true := by kernel_rfl
theorem tie84 (C : Cb) (a0 : V) (H : Hp) (R : List V → Hp → Prop) : wpG Try.prog C an84 (Try.f84.body.getD .skip) (argF [a0]) H (retG Try.prog C Try.f84 R) (fun _ _ _ => False) (retG Try.prog C Try.f84 R) = vc84 C a0 H R := by kernel_rfl
theorem mk84 (a0 : V) {H : Hp} {v : V} {H1 : Hp} (hd : v.Nd) (hn : H.length ≤ H1.length) (hb : H1 = H ∨ ∀ (b : Nat) (blk : Blk), H1[b]? = some blk → H[b]? = some blk ∨ BelB H1.length blk) (h : vc84 (real Try.prog) a0 H (retF v H1)) : Ret Try.prog 84 [a0] H v H1 :=
  ret_mk (an := an84) hm Try.call84 Try.func84 rfl wf84 hd hn hb (Eq.mpr (tie84 (real Try.prog) a0 H (retF v H1)) h)
theorem mko84 (a0 : V) {H : Hp} {xs : List V} {H1 : Hp} (hn : H.length ≤ H1.length) (hb : H1 = H ∨ ∀ (b : Nat) (blk : Blk), H1[b]? = some blk → H[b]? = some blk ∨ BelB H1.length blk) (h : vc84 (real Try.prog) a0 H (retO xs H1)) : Ret Try.prog 84 [a0] H (.arr xs .own) H1 :=
  ret_mko (an := an84) (t := 2) hm Try.call84 Try.func84 rfl wf84 rfl hn hb (Eq.mpr (tie84 (real Try.prog) a0 H (retO xs H1)) h)

/- declaim/join.periods -/
def an85 : An := { imm := [1], jn := [], lp := [], loud := [], ord := [] }
def vc85 (C : Cb) (a0 : V) (H : Hp) (R : List V → Hp → Prop) : Prop :=
 C.aBx true 2 a0.nod H fun (v1 : V) (H2 : Hp) =>
 R [(V.fn 96 [v1.nod])] H2
theorem wf85 : (Nat.ble 1 Try.f85.ntmps && wfC an85 Try.f85.ntmps (Try.f85.body.getD .skip)) = true := by kernel_rfl
theorem tie85 (C : Cb) (a0 : V) (H : Hp) (R : List V → Hp → Prop) : wpG Try.prog C an85 (Try.f85.body.getD .skip) (argF [a0]) H (retG Try.prog C Try.f85 R) (fun _ _ _ => False) (retG Try.prog C Try.f85 R) = vc85 C a0 H R := by kernel_rfl
theorem mk85 (a0 : V) {H : Hp} {v : V} {H1 : Hp} (hd : v.Nd) (hn : H.length ≤ H1.length) (hb : H1 = H ∨ ∀ (b : Nat) (blk : Blk), H1[b]? = some blk → H[b]? = some blk ∨ BelB H1.length blk) (h : vc85 (real Try.prog) a0 H (retF v H1)) : Ret Try.prog 85 [a0] H v H1 :=
  ret_mk (an := an85) hm Try.call85 Try.func85 rfl wf85 hd hn hb (Eq.mpr (tie85 (real Try.prog) a0 H (retF v H1)) h)
theorem mko85 (a0 : V) {H : Hp} {xs : List V} {H1 : Hp} (hn : H.length ≤ H1.length) (hb : H1 = H ∨ ∀ (b : Nat) (blk : Blk), H1[b]? = some blk → H[b]? = some blk ∨ BelB H1.length blk) (h : vc85 (real Try.prog) a0 H (retO xs H1)) : Ret Try.prog 85 [a0] H (.arr xs .own) H1 :=
  ret_mko (an := an85) (t := 2) hm Try.call85 Try.func85 rfl wf85 rfl hn hb (Eq.mpr (tie85 (real Try.prog) a0 H (retO xs H1)) h)

/- declaim/join.near -/
def an86 : An := { imm := [], jn := [], lp := [], loud := [], ord := [] }
def vc86 (C : Cb) (a0 a1 a2 : V) (H : Hp) (R : List V → Hp → Prop) : Prop :=
 C.aBin (Try.prog.underlying 3) .mul (I 2) a0.nod.nod fun (v1 : V) =>
 C.aBin (Try.prog.underlying 3) .mul v1.nod a1.nod.nod fun (v2 : V) =>
 C.aBin (Try.prog.underlying 3) .add v2.nod a2.nod.nod fun (v3 : V) =>
 C.aBin (Try.prog.underlying 3) .mul (I 2) a2.nod.nod fun (v4 : V) =>
 C.aBin (Try.prog.underlying 3) .quo v3.nod v4.nod fun (v5 : V) =>
 C.aMM true [(I 1), v5.nod] fun (v6 : V) =>
 R [v6] H
theorem wf86 : (Nat.ble 3 Try.f86.ntmps && wfC an86 Try.f86.ntmps (Try.f86.body.getD .skip)) = true := by kernel_rfl
theorem tie86 (C : Cb) (a0 a1 a2 : V) (H : Hp) (R : List V → Hp → Prop) : wpG Try.prog C an86 (Try.f86.body.getD .skip) (argF [a0, a1, a2]) H (retG Try.prog C Try.f86 R) (fun _ _ _ => False) (retG Try.prog C Try.f86 R) = vc86 C a0 a1 a2 H R := by kernel_rfl
theorem mk86 (a0 a1 a2 : V) {H : Hp} {v : V} {H1 : Hp} (hd : v.Nd) (hn : H.length ≤ H1.length) (hb : H1 = H ∨ ∀ (b : Nat) (blk : Blk), H1[b]? = some blk → H[b]? = some blk ∨ BelB H1.length blk) (h : vc86 (real Try.prog) a0 a1 a2 H (retF v H1)) : Ret Try.prog 86 [a0, a1, a2] H v H1 :=
  ret_mk (an := an86) hm Try.call86 Try.func86 rfl wf86 hd hn hb (Eq.mpr (tie86 (real Try.prog) a0 a1 a2 H (retF v H1)) h)
theorem mko86 (a0 a1 a2 : V) {H : Hp} {xs : List V} {H1 : Hp} (hn : H.length ≤ H1.length) (hb : H1 = H ∨ ∀ (b : Nat) (blk : Blk), H1[b]? = some blk → H[b]? = some blk ∨ BelB H1.length blk) (h : vc86 (real Try.prog) a0 a1 a2 H (retO xs H1)) : Ret Try.prog 86 [a0, a1, a2] H (.arr xs .own) H1 :=
  ret_mko (an := an86) (t := 6) hm Try.call86 Try.func86 rfl wf86 rfl hn hb (Eq.mpr (tie86 (real Try.prog) a0 a1 a2 H (retO xs H1)) h)

/- slices.ContainsFunc[[]int,int] -/
def an87 : An := { imm := [], jn := [], lp := [], loud := [], ord := [] }
def vc87 (C : Cb) (a0 a1 : V) (H : Hp) (R : List V → Hp → Prop) : Prop :=
 C.call 97 [a0.nod.nod, a1.nod.nod] H fun (v1 : V) (H2 : Hp) =>
 C.aBin (Try.prog.underlying 3) .geq v1.nod (I 0) fun (v3 : V) =>
 R [v3] H2
theorem wf87 : (Nat.ble 2 Try.f87.ntmps && wfC an87 Try.f87.ntmps (Try.f87.body.getD .skip)) = true := by kernel_rfl
theorem tie87 (C : Cb) (a0 a1 : V) (H : Hp) (R : List V → Hp → Prop) : wpG Try.prog C an87 (Try.f87.body.getD .skip) (argF [a0, a1]) H (retG Try.prog C Try.f87 R) (fun _ _ _ => False) (retG Try.prog C Try.f87 R) = vc87 C a0 a1 H R := by kernel_rfl
theorem mk87 (a0 a1 : V) {H : Hp} {v : V} {H1 : Hp} (hd : v.Nd) (hn : H.length ≤ H1.length) (hb : H1 = H ∨ ∀ (b : Nat) (blk : Blk), H1[b]? = some blk → H[b]? = some blk ∨ BelB H1.length blk) (h : vc87 (real Try.prog) a0 a1 H (retF v H1)) : Ret Try.prog 87 [a0, a1] H v H1 :=
  ret_mk (an := an87) hm Try.call87 Try.func87 rfl wf87 hd hn hb (Eq.mpr (tie87 (real Try.prog) a0 a1 H (retF v H1)) h)
theorem mko87 (a0 a1 : V) {H : Hp} {xs : List V} {H1 : Hp} (hn : H.length ≤ H1.length) (hb : H1 = H ∨ ∀ (b : Nat) (blk : Blk), H1[b]? = some blk → H[b]? = some blk ∨ BelB H1.length blk) (h : vc87 (real Try.prog) a0 a1 H (retO xs H1)) : Ret Try.prog 87 [a0, a1] H (.arr xs .own) H1 :=
  ret_mko (an := an87) (t := 4) hm Try.call87 Try.func87 rfl wf87 rfl hn hb (Eq.mpr (tie87 (real Try.prog) a0 a1 H (retO xs H1)) h)

/- declaim/join.wave$1 -/
def an88 : An := { imm := [], jn := [], lp := [], loud := [], ord := [] }
def vc88 (C : Cb) (a0 : V) (H : Hp) (R : List V → Hp → Prop) : Prop :=
 C.aBin (Try.prog.underlying 3) .lss a0.nod.nod (I (-32768)) fun (v1 : V) =>
 Jv (fun (v2 : V) (H3 : Hp) =>
 R [v2] H3)
 (fun (R4 : V → Hp → Prop) =>
 aG v1.nod false (
 C.aBin (Try.prog.underlying 3) .gtr a0.nod.nod (I 32767) fun (v5 : V) =>
 R4 v5.nod H) (
 R4 (B true) H))
theorem wf88 : (Nat.ble 1 Try.f88.ntmps && wfC an88 Try.f88.ntmps (Try.f88.body.getD .skip)) = true := by kernel_rfl
theorem tie88 (C : Cb) (a0 : V) (H : Hp) (R : List V → Hp → Prop) : wpG Try.prog C an88 (Try.f88.body.getD .skip) (argF [a0]) H (retG Try.prog C Try.f88 R) (fun _ _ _ => False) (retG Try.prog C Try.f88 R) = vc88 C a0 H R := by kernel_rfl
theorem mk88 (a0 : V) {H : Hp} {v : V} {H1 : Hp} (hd : v.Nd) (hn : H.length ≤ H1.length) (hb : H1 = H ∨ ∀ (b : Nat) (blk : Blk), H1[b]? = some blk → H[b]? = some blk ∨ BelB H1.length blk) (h : vc88 (real Try.prog) a0 H (retF v H1)) : Ret Try.prog 88 [a0] H v H1 :=
  ret_mk (an := an88) hm Try.call88 Try.func88 rfl wf88 hd hn hb (Eq.mpr (tie88 (real Try.prog) a0 H (retF v H1)) h)
theorem mko88 (a0 : V) {H : Hp} {xs : List V} {H1 : Hp} (hn : H.length ≤ H1.length) (hb : H1 = H ∨ ∀ (b : Nat) (blk : Blk), H1[b]? = some blk → H[b]? = some blk ∨ BelB H1.length blk) (h : vc88 (real Try.prog) a0 H (retO xs H1)) : Ret Try.prog 88 [a0] H (.arr xs .own) H1 :=
  ret_mko (an := an88) (t := 2) hm Try.call88 Try.func88 rfl wf88 rfl hn hb (Eq.mpr (tie88 (real Try.prog) a0 H (retO xs H1)) h)

/- declaim/join.root -/
def an89 : An := { imm := [], jn := [(5, [0, 3, 4, 5, 18])], lp := [(2, [0, 3, 4])], loud := [], ord := [] }
def vc89 (C : Cb) (a0 : V) (H : Hp) (R : List V → Hp → Prop) : Prop :=
 LoopA (fun (l1 : List V) (H2 : Hp) (K3 : List V → Hp → Prop) =>
 C.aBin (Try.prog.underlying 3) .sub (l1.getD 2 .junk).nod.nod (l1.getD 1 .junk).nod.nod fun (v4 : V) =>
 C.aBin (Try.prog.underlying 3) .gtr v4.nod (I 1) fun (v5 : V) =>
 aCond v5.nod (
 C.aBin (Try.prog.underlying 3) .add (l1.getD 1 .junk).nod.nod (l1.getD 2 .junk).nod.nod fun (v6 : V) =>
 C.aBin (Try.prog.underlying 3) .quo v6.nod (I 2) fun (v7 : V) =>
 Jn (fun (l8 : List V) (H9 : Hp) =>
 aCond (l8.getD 4 .junk).nod (
 K3 [(l8.getD 0 .junk), (l8.getD 3 .junk).nod, (l8.getD 2 .junk)] H9) (
 K3 [(l8.getD 0 .junk), (l8.getD 1 .junk), (l8.getD 3 .junk).nod] H9))
 (fun (R10 : List V → Hp → Prop) =>
 C.aBin (Try.prog.underlying 3) .mul v7.nod.nod v7.nod.nod fun (v11 : V) =>
 C.aBin (Try.prog.underlying 3) .leq v11.nod (l1.getD 0 .junk).nod.nod fun (v12 : V) =>
 R10 [(l1.getD 0 .junk), (l1.getD 1 .junk), (l1.getD 2 .junk), v7, v12] H2)) (
 R [(l1.getD 1 .junk).nod] H2))
 [a0, (I 0), (I 65536)] H
theorem wf89 : (Nat.ble 1 Try.f89.ntmps && wfC an89 Try.f89.ntmps (Try.f89.body.getD .skip)) = true := by kernel_rfl
theorem tie89 (C : Cb) (a0 : V) (H : Hp) (R : List V → Hp → Prop) : wpG Try.prog C an89 (Try.f89.body.getD .skip) (argF [a0]) H (retG Try.prog C Try.f89 R) (fun _ _ _ => False) (retG Try.prog C Try.f89 R) = vc89 C a0 H R := by kernel_rfl
theorem mk89 (a0 : V) {H : Hp} {v : V} {H1 : Hp} (hd : v.Nd) (hn : H.length ≤ H1.length) (hb : H1 = H ∨ ∀ (b : Nat) (blk : Blk), H1[b]? = some blk → H[b]? = some blk ∨ BelB H1.length blk) (h : vc89 (real Try.prog) a0 H (retF v H1)) : Ret Try.prog 89 [a0] H v H1 :=
  ret_mk (an := an89) hm Try.call89 Try.func89 rfl wf89 hd hn hb (Eq.mpr (tie89 (real Try.prog) a0 H (retF v H1)) h)
theorem mko89 (a0 : V) {H : Hp} {xs : List V} {H1 : Hp} (hn : H.length ≤ H1.length) (hb : H1 = H ∨ ∀ (b : Nat) (blk : Blk), H1[b]? = some blk → H[b]? = some blk ∨ BelB H1.length blk) (h : vc89 (real Try.prog) a0 H (retO xs H1)) : Ret Try.prog 89 [a0] H (.arr xs .own) H1 :=
  ret_mko (an := an89) (t := 2) hm Try.call89 Try.func89 rfl wf89 rfl hn hb (Eq.mpr (tie89 (real Try.prog) a0 H (retO xs H1)) h)

/- declaim/join.squares[int] -/
def an90 : An := { imm := [], jn := [], lp := [(3, [3, 6, 7, 8])], loud := [], ord := [] }
def vc90 (C : Cb) (a0 : V) (H : Hp) (R : List V → Hp → Prop) : Prop :=
 C.aLen a0.nod.nod fun (v1 : V) =>
 LoopA (fun (l2 : List V) (H3 : Hp) (K4 : List V → Hp → Prop) =>
 C.aBin (Try.prog.underlying 3) .lss (l2.getD 3 .junk).nod (l2.getD 2 .junk).nod fun (v5 : V) =>
 aCond v5.nod (
 C.aIx 1 (l2.getD 1 .junk).nod (l2.getD 3 .junk).nod fun (v6 : V) =>
 C.aLd 1 false false v6.nod H3 fun (v7 : V) (H8 : Hp) =>
 C.aBin (Try.prog.underlying 3) .mul v7.nod.nod v7.nod.nod fun (v9 : V) =>
 C.aBin (Try.prog.underlying 3) .add (l2.getD 0 .junk).nod.nod v9.nod fun (v10 : V) =>
 C.aBin (Try.prog.underlying 3) .add (l2.getD 3 .junk).nod (I 1) fun (v11 : V) =>
 K4 [v10, (l2.getD 1 .junk), (l2.getD 2 .junk), v11.nod] H8) (
 R [(l2.getD 0 .junk).nod] H3))
 [(I 0), a0.nod, v1, (I 0)] H
theorem wf90 : (Nat.ble 1 Try.f90.ntmps && wfC an90 Try.f90.ntmps (Try.f90.body.getD .skip)) = true := by kernel_rfl
theorem tie90 (C : Cb) (a0 : V) (H : Hp) (R : List V → Hp → Prop) : wpG Try.prog C an90 (Try.f90.body.getD .skip) (argF [a0]) H (retG Try.prog C Try.f90 R) (fun _ _ _ => False) (retG Try.prog C Try.f90 R) = vc90 C a0 H R := by kernel_rfl
theorem mk90 (a0 : V) {H : Hp} {v : V} {H1 : Hp} (hd : v.Nd) (hn : H.length ≤ H1.length) (hb : H1 = H ∨ ∀ (b : Nat) (blk : Blk), H1[b]? = some blk → H[b]? = some blk ∨ BelB H1.length blk) (h : vc90 (real Try.prog) a0 H (retF v H1)) : Ret Try.prog 90 [a0] H v H1 :=
  ret_mk (an := an90) hm Try.call90 Try.func90 rfl wf90 hd hn hb (Eq.mpr (tie90 (real Try.prog) a0 H (retF v H1)) h)
theorem mko90 (a0 : V) {H : Hp} {xs : List V} {H1 : Hp} (hn : H.length ≤ H1.length) (hb : H1 = H ∨ ∀ (b : Nat) (blk : Blk), H1[b]? = some blk → H[b]? = some blk ∨ BelB H1.length blk) (h : vc90 (real Try.prog) a0 H (retO xs H1)) : Ret Try.prog 90 [a0] H (.arr xs .own) H1 :=
  ret_mko (an := an90) (t := 2) hm Try.call90 Try.func90 rfl wf90 rfl hn hb (Eq.mpr (tie90 (real Try.prog) a0 H (retO xs H1)) h)

/- slices.Min[[]int,int] -/
def an91 : An := { imm := [], jn := [(3, [0])], lp := [(5, [0, 3, 4])], loud := [], ord := [] }
def vc91 (C : Cb) (a0 : V) (H : Hp) (R : List V → Hp → Prop) : Prop :=
 Jn (fun (l1 : List V) (H2 : Hp) =>
 C.aIx 1 (l1.getD 0 .junk).nod.nod (I 0) fun (v4 : V) =>
 C.aLd 1 false false v4.nod H2 fun (v5 : V) (H6 : Hp) =>
 LoopA (fun (l7 : List V) (H8 : Hp) (K9 : List V → Hp → Prop) =>
 C.aLen (l7.getD 0 .junk).nod.nod fun (v10 : V) =>
 C.aBin (Try.prog.underlying 3) .lss (l7.getD 2 .junk).nod.nod v10.nod fun (v11 : V) =>
 aCond v11.nod (
 C.aIx 1 (l7.getD 0 .junk).nod.nod (l7.getD 2 .junk).nod.nod fun (v12 : V) =>
 C.aLd 1 false false v12.nod H8 fun (v13 : V) (H14 : Hp) =>
 C.aMM false [(l7.getD 1 .junk).nod.nod, v13.nod] fun (v15 : V) =>
 C.aBin (Try.prog.underlying 3) .add (l7.getD 2 .junk).nod.nod (I 1) fun (v16 : V) =>
 K9 [(l7.getD 0 .junk), v15, v16] H14) (
 R [(l7.getD 1 .junk).nod] H8))
 [(l1.getD 0 .junk), v5, (I 1)] H6)
 (fun (R3 : List V → Hp → Prop) =>
 C.aLen a0.nod.nod fun (v17 : V) =>
 C.aBin (Try.prog.underlying 3) .lss v17.nod (I 1) fun (v18 : V) =>
 aCond v18.nod (
 False) (
 R3 [a0] H))
theorem wf91 : (Nat.ble 1 Try.f91.ntmps && wfC an91 Try.f91.ntmps (Try.f91.body.getD .skip)) = true := by kernel_rfl
theorem tie91 (C : Cb) (a0 : V) (H : Hp) (R : List V → Hp → Prop) : wpG Try.prog C an91 (Try.f91.body.getD .skip) (argF [a0]) H (retG Try.prog C Try.f91 R) (fun _ _ _ => False) (retG Try.prog C Try.f91 R) = vc91 C a0 H R := by kernel_rfl
theorem mk91 (a0 : V) {H : Hp} {v : V} {H1 : Hp} (hd : v.Nd) (hn : H.length ≤ H1.length) (hb : H1 = H ∨ ∀ (b : Nat) (blk : Blk), H1[b]? = some blk → H[b]? = some blk ∨ BelB H1.length blk) (h : vc91 (real Try.prog) a0 H (retF v H1)) : Ret Try.prog 91 [a0] H v H1 :=
  ret_mk (an := an91) hm Try.call91 Try.func91 rfl wf91 hd hn hb (Eq.mpr (tie91 (real Try.prog) a0 H (retF v H1)) h)
theorem mko91 (a0 : V) {H : Hp} {xs : List V} {H1 : Hp} (hn : H.length ≤ H1.length) (hb : H1 = H ∨ ∀ (b : Nat) (blk : Blk), H1[b]? = some blk → H[b]? = some blk ∨ BelB H1.length blk) (h : vc91 (real Try.prog) a0 H (retO xs H1)) : Ret Try.prog 91 [a0] H (.arr xs .own) H1 :=
  ret_mko (an := an91) (t := 2) hm Try.call91 Try.func91 rfl wf91 rfl hn hb (Eq.mpr (tie91 (real Try.prog) a0 H (retO xs H1)) h)

/- slices.Max[[]int,int] -/
def an92 : An := { imm := [], jn := [(3, [0])], lp := [(5, [0, 3, 4])], loud := [], ord := [] }
def vc92 (C : Cb) (a0 : V) (H : Hp) (R : List V → Hp → Prop) : Prop :=
 Jn (fun (l1 : List V) (H2 : Hp) =>
 C.aIx 1 (l1.getD 0 .junk).nod.nod (I 0) fun (v4 : V) =>
 C.aLd 1 false false v4.nod H2 fun (v5 : V) (H6 : Hp) =>
 LoopA (fun (l7 : List V) (H8 : Hp) (K9 : List V → Hp → Prop) =>
 C.aLen (l7.getD 0 .junk).nod.nod fun (v10 : V) =>
 C.aBin (Try.prog.underlying 3) .lss (l7.getD 2 .junk).nod.nod v10.nod fun (v11 : V) =>
 aCond v11.nod (
 C.aIx 1 (l7.getD 0 .junk).nod.nod (l7.getD 2 .junk).nod.nod fun (v12 : V) =>
 C.aLd 1 false false v12.nod H8 fun (v13 : V) (H14 : Hp) =>
 C.aMM true [(l7.getD 1 .junk).nod.nod, v13.nod] fun (v15 : V) =>
 C.aBin (Try.prog.underlying 3) .add (l7.getD 2 .junk).nod.nod (I 1) fun (v16 : V) =>
 K9 [(l7.getD 0 .junk), v15, v16] H14) (
 R [(l7.getD 1 .junk).nod] H8))
 [(l1.getD 0 .junk), v5, (I 1)] H6)
 (fun (R3 : List V → Hp → Prop) =>
 C.aLen a0.nod.nod fun (v17 : V) =>
 C.aBin (Try.prog.underlying 3) .lss v17.nod (I 1) fun (v18 : V) =>
 aCond v18.nod (
 False) (
 R3 [a0] H))
theorem wf92 : (Nat.ble 1 Try.f92.ntmps && wfC an92 Try.f92.ntmps (Try.f92.body.getD .skip)) = true := by kernel_rfl
theorem tie92 (C : Cb) (a0 : V) (H : Hp) (R : List V → Hp → Prop) : wpG Try.prog C an92 (Try.f92.body.getD .skip) (argF [a0]) H (retG Try.prog C Try.f92 R) (fun _ _ _ => False) (retG Try.prog C Try.f92 R) = vc92 C a0 H R := by kernel_rfl
theorem mk92 (a0 : V) {H : Hp} {v : V} {H1 : Hp} (hd : v.Nd) (hn : H.length ≤ H1.length) (hb : H1 = H ∨ ∀ (b : Nat) (blk : Blk), H1[b]? = some blk → H[b]? = some blk ∨ BelB H1.length blk) (h : vc92 (real Try.prog) a0 H (retF v H1)) : Ret Try.prog 92 [a0] H v H1 :=
  ret_mk (an := an92) hm Try.call92 Try.func92 rfl wf92 hd hn hb (Eq.mpr (tie92 (real Try.prog) a0 H (retF v H1)) h)
theorem mko92 (a0 : V) {H : Hp} {xs : List V} {H1 : Hp} (hn : H.length ≤ H1.length) (hb : H1 = H ∨ ∀ (b : Nat) (blk : Blk), H1[b]? = some blk → H[b]? = some blk ∨ BelB H1.length blk) (h : vc92 (real Try.prog) a0 H (retO xs H1)) : Ret Try.prog 92 [a0] H (.arr xs .own) H1 :=
  ret_mko (an := an92) (t := 2) hm Try.call92 Try.func92 rfl wf92 rfl hn hb (Eq.mpr (tie92 (real Try.prog) a0 H (retO xs H1)) h)

/- declaim/join.loudest$1 -/
def an93 : An := { imm := [], jn := [], lp := [], loud := [], ord := [] }
def vc93 (C : Cb) (a0 a1 a2 a3 : V) (H : Hp) (R : List V → Hp → Prop) : Prop :=
 C.aLd 1 false false a1.nod H fun (v1 : V) (H2 : Hp) =>
 C.aLd 1 false false a2.nod H2 fun (v3 : V) (H4 : Hp) =>
 C.call 75 [v1.nod, a0.nod.nod, v3.nod] H4 fun (v5 : V) (H6 : Hp) =>
 C.call 76 [v5.nod] H6 fun (v7 : V) (H8 : Hp) =>
 C.aUn .not v7.nod fun (v9 : V) =>
 Jv (fun (v10 : V) (H11 : Hp) =>
 R [v10] H11)
 (fun (R12 : V → Hp → Prop) =>
 aG v9.nod true (
 C.aLd 1 false false a3.nod H8 fun (v13 : V) (H14 : Hp) =>
 C.aLd 1 false false a2.nod H14 fun (v15 : V) (H16 : Hp) =>
 C.call 75 [v13.nod, a0.nod.nod, v15.nod] H16 fun (v17 : V) (H18 : Hp) =>
 C.call 76 [v17.nod] H18 fun (v19 : V) (H20 : Hp) =>
 C.aUn .not v19.nod fun (v21 : V) =>
 R12 v21.nod H20) (
 R12 (B false) H8))
theorem wf93 : (Nat.ble 4 Try.f93.ntmps && wfC an93 Try.f93.ntmps (Try.f93.body.getD .skip)) = true := by kernel_rfl
theorem tie93 (C : Cb) (a0 a1 a2 a3 : V) (H : Hp) (R : List V → Hp → Prop) : wpG Try.prog C an93 (Try.f93.body.getD .skip) (argF [a0, a1, a2, a3]) H (retG Try.prog C Try.f93 R) (fun _ _ _ => False) (retG Try.prog C Try.f93 R) = vc93 C a0 a1 a2 a3 H R := by kernel_rfl
theorem mk93 (a0 a1 a2 a3 : V) {H : Hp} {v : V} {H1 : Hp} (hd : v.Nd) (hn : H.length ≤ H1.length) (hb : H1 = H ∨ ∀ (b : Nat) (blk : Blk), H1[b]? = some blk → H[b]? = some blk ∨ BelB H1.length blk) (h : vc93 (real Try.prog) a0 a1 a2 a3 H (retF v H1)) : Ret Try.prog 93 [a0, a1, a2, a3] H v H1 :=
  ret_mk (an := an93) hm Try.call93 Try.func93 rfl wf93 hd hn hb (Eq.mpr (tie93 (real Try.prog) a0 a1 a2 a3 H (retF v H1)) h)
theorem mko93 (a0 a1 a2 a3 : V) {H : Hp} {xs : List V} {H1 : Hp} (hn : H.length ≤ H1.length) (hb : H1 = H ∨ ∀ (b : Nat) (blk : Blk), H1[b]? = some blk → H[b]? = some blk ∨ BelB H1.length blk) (h : vc93 (real Try.prog) a0 a1 a2 a3 H (retO xs H1)) : Ret Try.prog 93 [a0, a1, a2, a3] H (.arr xs .own) H1 :=
  ret_mko (an := an93) (t := 5) hm Try.call93 Try.func93 rfl wf93 rfl hn hb (Eq.mpr (tie93 (real Try.prog) a0 a1 a2 a3 H (retO xs H1)) h)

/- slices.IndexFunc[[][]int,[]int] -/
def an94 : An := { imm := [], jn := [], lp := [(2, [0, 1, 7, 8])], loud := [], ord := [] }
def vc94 (C : Cb) (a0 a1 : V) (H : Hp) (R : List V → Hp → Prop) : Prop :=
 C.aLen a0.nod.nod fun (v1 : V) =>
 LoopA (fun (l2 : List V) (H3 : Hp) (K4 : List V → Hp → Prop) =>
 C.aBin (Try.prog.underlying 3) .lss (l2.getD 3 .junk).nod (l2.getD 2 .junk).nod fun (v5 : V) =>
 aCond v5.nod (
 C.aIx 1 (l2.getD 0 .junk).nod.nod (l2.getD 3 .junk).nod.nod.nod fun (v6 : V) =>
 C.aLd 1 false false v6.nod H3 fun (v7 : V) (H8 : Hp) =>
 aCallG C (l2.getD 1 .junk).nod.nod [v7.nod] H8 fun (v9 : V) (H10 : Hp) =>
 aCond v9.nod (
 R [(l2.getD 3 .junk).nod.nod] H10) (
 C.aBin (Try.prog.underlying 3) .add (l2.getD 3 .junk).nod (I 1) fun (v11 : V) =>
 K4 [(l2.getD 0 .junk), (l2.getD 1 .junk), (l2.getD 2 .junk), v11.nod] H10)) (
 R [(I (-1))] H3))
 [a0, a1, v1, (I 0)] H
theorem wf94 : (Nat.ble 2 Try.f94.ntmps && wfC an94 Try.f94.ntmps (Try.f94.body.getD .skip)) = true := by kernel_rfl
theorem tie94 (C : Cb) (a0 a1 : V) (H : Hp) (R : List V → Hp → Prop) : wpG Try.prog C an94 (Try.f94.body.getD .skip) (argF [a0, a1]) H (retG Try.prog C Try.f94 R) (fun _ _ _ => False) (retG Try.prog C Try.f94 R) = vc94 C a0 a1 H R := by kernel_rfl
theorem mk94 (a0 a1 : V) {H : Hp} {v : V} {H1 : Hp} (hd : v.Nd) (hn : H.length ≤ H1.length) (hb : H1 = H ∨ ∀ (b : Nat) (blk : Blk), H1[b]? = some blk → H[b]? = some blk ∨ BelB H1.length blk) (h : vc94 (real Try.prog) a0 a1 H (retF v H1)) : Ret Try.prog 94 [a0, a1] H v H1 :=
  ret_mk (an := an94) hm Try.call94 Try.func94 rfl wf94 hd hn hb (Eq.mpr (tie94 (real Try.prog) a0 a1 H (retF v H1)) h)
theorem mko94 (a0 a1 : V) {H : Hp} {xs : List V} {H1 : Hp} (hn : H.length ≤ H1.length) (hb : H1 = H ∨ ∀ (b : Nat) (blk : Blk), H1[b]? = some blk → H[b]? = some blk ∨ BelB H1.length blk) (h : vc94 (real Try.prog) a0 a1 H (retO xs H1)) : Ret Try.prog 94 [a0, a1] H (.arr xs .own) H1 :=
  ret_mko (an := an94) (t := 4) hm Try.call94 Try.func94 rfl wf94 rfl hn hb (Eq.mpr (tie94 (real Try.prog) a0 a1 H (retO xs H1)) h)

/- (declaim/join.ratio).right$1 -/
def an95 : An := { imm := [], jn := [], lp := [], loud := [], ord := [] }
def vc95 (C : Cb) (a0 : V) (H : Hp) (R : List V → Hp → Prop) : Prop :=
 C.aBin (Try.prog.underlying 3) .geq a0.nod.nod (I 1) fun (v1 : V) =>
 Jv (fun (v2 : V) (H3 : Hp) =>
 R [v2] H3)
 (fun (R4 : V → Hp → Prop) =>
 aG v1.nod true (
 C.aBin (Try.prog.underlying 3) .leq a0.nod.nod (I 1000) fun (v5 : V) =>
 R4 v5.nod H) (
 R4 (B false) H))
theorem wf95 : (Nat.ble 1 Try.f95.ntmps && wfC an95 Try.f95.ntmps (Try.f95.body.getD .skip)) = true := by kernel_rfl
theorem tie95 (C : Cb) (a0 : V) (H : Hp) (R : List V → Hp → Prop) : wpG Try.prog C an95 (Try.f95.body.getD .skip) (argF [a0]) H (retG Try.prog C Try.f95 R) (fun _ _ _ => False) (retG Try.prog C Try.f95 R) = vc95 C a0 H R := by kernel_rfl
theorem mk95 (a0 : V) {H : Hp} {v : V} {H1 : Hp} (hd : v.Nd) (hn : H.length ≤ H1.length) (hb : H1 = H ∨ ∀ (b : Nat) (blk : Blk), H1[b]? = some blk → H[b]? = some blk ∨ BelB H1.length blk) (h : vc95 (real Try.prog) a0 H (retF v H1)) : Ret Try.prog 95 [a0] H v H1 :=
  ret_mk (an := an95) hm Try.call95 Try.func95 rfl wf95 hd hn hb (Eq.mpr (tie95 (real Try.prog) a0 H (retF v H1)) h)
theorem mko95 (a0 : V) {H : Hp} {xs : List V} {H1 : Hp} (hn : H.length ≤ H1.length) (hb : H1 = H ∨ ∀ (b : Nat) (blk : Blk), H1[b]? = some blk → H[b]? = some blk ∨ BelB H1.length blk) (h : vc95 (real Try.prog) a0 H (retO xs H1)) : Ret Try.prog 95 [a0] H (.arr xs .own) H1 :=
  ret_mko (an := an95) (t := 2) hm Try.call95 Try.func95 rfl wf95 rfl hn hb (Eq.mpr (tie95 (real Try.prog) a0 H (retO xs H1)) h)

/- declaim/join.periods$1 -/
def an96 : An := { imm := [], jn := [(2, [0, 1, 3])], lp := [(1, [0, 1, 3])], loud := [31], ord := [] }
def vc96 (C : Cb) (a0 a1 : V) (H : Hp) (R : List V → Hp → Prop) : Prop :=
 LoopA (fun (l1 : List V) (H2 : Hp) (K3 : List V → Hp → Prop) =>
 C.aFA 1 1 false (l1.getD 1 .junk).nod fun (v4 : V) =>
 C.aLd 1 false false v4.nod H2 fun (v5 : V) (H6 : Hp) =>
 C.aLen v5.nod fun (v7 : V) =>
 C.aBin (Try.prog.underlying 3) .lss (l1.getD 2 .junk).nod.nod v7.nod fun (v8 : V) =>
 aCond v8.nod (
 Jn (fun (l9 : List V) (H10 : Hp) =>
 C.aBin (Try.prog.underlying 3) .add (l9.getD 2 .junk).nod.nod (I 1) fun (v12 : V) =>
 K3 [(l9.getD 0 .junk), (l9.getD 1 .junk), v12] H10)
 (fun (R11 : List V → Hp → Prop) =>
 C.aFA 0 1 false (l1.getD 1 .junk).nod fun (v13 : V) =>
 C.aLd 1 false false v13.nod H6 fun (v14 : V) (H15 : Hp) =>
 C.aFA 1 1 false (l1.getD 1 .junk).nod fun (v16 : V) =>
 C.aLd 1 false false v16.nod H15 fun (v17 : V) (H18 : Hp) =>
 C.aBin (Try.prog.underlying 3) .sub (l1.getD 2 .junk).nod.nod (I 1) fun (v19 : V) =>
 C.aIx 1 v17.nod v19.nod fun (v20 : V) =>
 C.aLd 1 false false v20.nod H18 fun (v21 : V) (H22 : Hp) =>
 C.aFA 1 1 false (l1.getD 1 .junk).nod fun (v23 : V) =>
 C.aLd 1 false false v23.nod H22 fun (v24 : V) (H25 : Hp) =>
 C.aIx 1 v24.nod (l1.getD 2 .junk).nod.nod fun (v26 : V) =>
 C.aLd 1 false false v26.nod H25 fun (v27 : V) (H28 : Hp) =>
 C.aFA 1 1 false (l1.getD 1 .junk).nod fun (v29 : V) =>
 C.aLd 1 false false v29.nod H28 fun (v30 : V) (H31 : Hp) =>
 C.aIx 1 v30.nod (l1.getD 2 .junk).nod.nod fun (v32 : V) =>
 C.aLd 1 false false v32.nod H31 fun (v33 : V) (H34 : Hp) =>
 C.aSlc 1 v14.nod (some v21.nod) (some v27.nod) (some v33.nod) fun (v35 : V) =>
 aCallG C (l1.getD 0 .junk).nod.nod [v35.nod] H34 fun (v36 : V) (H37 : Hp) =>
 C.aUn .not v36.nod fun (v38 : V) =>
 aCond v38.nod (
 R [] H37) (
 R11 [(l1.getD 0 .junk), (l1.getD 1 .junk), (l1.getD 2 .junk)] H37))) (
 R [] H6))
 [a0, a1, (I 1)] H
theorem wf96 : (Nat.ble 2 Try.f96.ntmps && wfC an96 Try.f96.ntmps (Try.f96.body.getD .skip)) = true := by kernel_rfl
theorem tie96 (C : Cb) (a0 a1 : V) (H : Hp) (R : List V → Hp → Prop) : wpG Try.prog C an96 (Try.f96.body.getD .skip) (argF [a0, a1]) H (retG Try.prog C Try.f96 R) (fun _ _ _ => False) (retG Try.prog C Try.f96 R) = vc96 C a0 a1 H R := by kernel_rfl
theorem mk96 (a0 a1 : V) {H : Hp} {v : V} {H1 : Hp} (hd : v.Nd) (hn : H.length ≤ H1.length) (hb : H1 = H ∨ ∀ (b : Nat) (blk : Blk), H1[b]? = some blk → H[b]? = some blk ∨ BelB H1.length blk) (h : vc96 (real Try.prog) a0 a1 H (retF v H1)) : Ret Try.prog 96 [a0, a1] H v H1 :=
  ret_mk (an := an96) hm Try.call96 Try.func96 rfl wf96 hd hn hb (Eq.mpr (tie96 (real Try.prog) a0 a1 H (retF v H1)) h)

/- slices.IndexFunc[[]int,int] -/
def an97 : An := { imm := [], jn := [], lp := [(2, [0, 1, 7, 8])], loud := [], ord := [] }
def vc97 (C : Cb) (a0 a1 : V) (H : Hp) (R : List V → Hp → Prop) : Prop :=
 C.aLen a0.nod.nod fun (v1 : V) =>
 LoopA (fun (l2 : List V) (H3 : Hp) (K4 : List V → Hp → Prop) =>
 C.aBin (Try.prog.underlying 3) .lss (l2.getD 3 .junk).nod (l2.getD 2 .junk).nod fun (v5 : V) =>
 aCond v5.nod (
 C.aIx 1 (l2.getD 0 .junk).nod.nod (l2.getD 3 .junk).nod.nod.nod fun (v6 : V) =>
 C.aLd 1 false false v6.nod H3 fun (v7 : V) (H8 : Hp) =>
 aCallG C (l2.getD 1 .junk).nod.nod [v7.nod] H8 fun (v9 : V) (H10 : Hp) =>
 aCond v9.nod (
 R [(l2.getD 3 .junk).nod.nod] H10) (
 C.aBin (Try.prog.underlying 3) .add (l2.getD 3 .junk).nod (I 1) fun (v11 : V) =>
 K4 [(l2.getD 0 .junk), (l2.getD 1 .junk), (l2.getD 2 .junk), v11.nod] H10)) (
 R [(I (-1))] H3))
 [a0, a1, v1, (I 0)] H
theorem wf97 : (Nat.ble 2 Try.f97.ntmps && wfC an97 Try.f97.ntmps (Try.f97.body.getD .skip)) = true := by kernel_rfl
theorem tie97 (C : Cb) (a0 a1 : V) (H : Hp) (R : List V → Hp → Prop) : wpG Try.prog C an97 (Try.f97.body.getD .skip) (argF [a0, a1]) H (retG Try.prog C Try.f97 R) (fun _ _ _ => False) (retG Try.prog C Try.f97 R) = vc97 C a0 a1 H R := by kernel_rfl
theorem mk97 (a0 a1 : V) {H : Hp} {v : V} {H1 : Hp} (hd : v.Nd) (hn : H.length ≤ H1.length) (hb : H1 = H ∨ ∀ (b : Nat) (blk : Blk), H1[b]? = some blk → H[b]? = some blk ∨ BelB H1.length blk) (h : vc97 (real Try.prog) a0 a1 H (retF v H1)) : Ret Try.prog 97 [a0, a1] H v H1 :=
  ret_mk (an := an97) hm Try.call97 Try.func97 rfl wf97 hd hn hb (Eq.mpr (tie97 (real Try.prog) a0 a1 H (retF v H1)) h)
theorem mko97 (a0 a1 : V) {H : Hp} {xs : List V} {H1 : Hp} (hn : H.length ≤ H1.length) (hb : H1 = H ∨ ∀ (b : Nat) (blk : Blk), H1[b]? = some blk → H[b]? = some blk ∨ BelB H1.length blk) (h : vc97 (real Try.prog) a0 a1 H (retO xs H1)) : Ret Try.prog 97 [a0, a1] H (.arr xs .own) H1 :=
  ret_mko (an := an97) (t := 4) hm Try.call97 Try.func97 rfl wf97 rfl hn hb (Eq.mpr (tie97 (real Try.prog) a0 a1 H (retO xs H1)) h)

end Go.Proofs.Ytehjfjdknllmhaa
