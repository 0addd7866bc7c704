import Derived.Test.YtehjfjdknllmhaaAb23
import Derived.Test.YtehjfjdknllmhaaProg
import Derived.Test.YtehjfjdknllmhaaJV1
set_option linter.unusedVariables false
set_option maxRecDepth 20000
set_option maxHeartbeats 4000000
namespace Go.Proofs.Ytehjfjdknllmhaa
open Go Go.Ab Go.Proofs
/- declaim/declaimlaw07.JoinMeasures -/
def an14 : An := { imm := [1], jn := [(2, [1, 19]), (6, [1, 3, 4]), (8, [1, 3, 4, 5, 6, 7]), (10, [1, 3, 4, 5, 6]), (11, [1, 5, 6, 71]), (14, [1, 5, 6]), (17, [1, 5, 6, 8, 9])], lp := [(16, [1, 5, 6, 8, 9])], loud := [24], ord := [] }
def vc14 (C : Cb) (a0 : V) (H : Hp) (R : List V → Hp → Prop) : Prop :=
 C.aBx true 2 a0.nod H fun (v1 : V) (H2 : Hp) =>
 Jn (fun (l3 : List V) (H4 : Hp) =>
 aCond (l3.getD 1 .junk).nod (
 C.call 18 [] H4 fun (v6 : V) (H7 : Hp) =>
 R [v6] H7) (
 C.aLd 2 true false (l3.getD 0 .junk).nod H4 fun (v8 : V) (H9 : Hp) =>
 C.calm 37 [v8.nod] H9 fun (v10 : V) =>
 C.aLd 2 true false (l3.getD 0 .junk).nod H9 fun (v11 : V) (H12 : Hp) =>
 C.call 30 [v11.nod] H12 fun (v13 : V) (H14 : Hp) =>
 C.aBin (Try.prog.underlying 25) .eql v13.nod (I 0) fun (v15 : V) =>
 C.aBin (Try.prog.underlying 4) .neq v10.nod v15.nod fun (v16 : V) =>
 aCond v16.nod (
 R [(B false)] H14) (
 Jn (fun (l17 : List V) (H18 : Hp) =>
 C.aFA 0 1 false (l17.getD 0 .junk).nod fun (v20 : V) =>
 C.aLd 1 false false v20.nod H18 fun (v21 : V) (H22 : Hp) =>
 C.call 49 [v21.nod] H22 fun (v23 : V) (H24 : Hp) =>
 C.aExt 0 v23.nod.nod fun (v25 : V) =>
 C.aExt 1 v23.nod.nod fun (v26 : V) =>
 Jn (fun (l27 : List V) (H28 : Hp) =>
 Jn (fun (l30 : List V) (H31 : Hp) =>
 aCond (l30.getD 3 .junk).nod (
 R [(B false)] H31) (
 Jn (fun (l33 : List V) (H34 : Hp) =>
 LoopA (fun (l36 : List V) (H37 : Hp) (K38 : List V → Hp → Prop) =>
 C.aFA 0 1 false (l36.getD 0 .junk).nod fun (v39 : V) =>
 C.aLd 1 false false v39.nod H37 fun (v40 : V) (H41 : Hp) =>
 C.aLen v40.nod fun (v42 : V) =>
 C.aBin (Try.prog.underlying 3) .lss (l36.getD 4 .junk).nod.nod v42.nod fun (v43 : V) =>
 aCond v43.nod (
 Jn (fun (l44 : List V) (H45 : Hp) =>
 C.aBin (Try.prog.underlying 3) .add (l44.getD 4 .junk).nod.nod (I 1) fun (v47 : V) =>
 K38 [(l44.getD 0 .junk), (l44.getD 1 .junk), (l44.getD 2 .junk), (l44.getD 3 .junk), v47] H45)
 (fun (R46 : List V → Hp → Prop) =>
 C.aFA 0 1 false (l36.getD 0 .junk).nod fun (v48 : V) =>
 C.aLd 1 false false v48.nod H41 fun (v49 : V) (H50 : Hp) =>
 C.aIx 1 v49.nod (l36.getD 4 .junk).nod.nod fun (v51 : V) =>
 C.aLd 1 false false v51.nod H50 fun (v52 : V) (H53 : Hp) =>
 C.aFA 0 1 false (l36.getD 0 .junk).nod fun (v54 : V) =>
 C.aLd 1 false false v54.nod H53 fun (v55 : V) (H56 : Hp) =>
 C.aIx 1 v55.nod (l36.getD 4 .junk).nod.nod fun (v57 : V) =>
 C.aLd 1 false false v57.nod H56 fun (v58 : V) (H59 : Hp) =>
 C.aUn .neg v58.nod fun (v60 : V) =>
 C.aMM true [(l36.getD 3 .junk).nod.nod, v52.nod, v60.nod] fun (v61 : V) =>
 R46 [(l36.getD 0 .junk), (l36.getD 1 .junk), (l36.getD 2 .junk), v61, (l36.getD 4 .junk)] H59)) (
 C.aBin (Try.prog.underlying 25) .eql (l36.getD 2 .junk).nod.nod (I 0) fun (v62 : V) =>
 Jv (fun (v63 : V) (H64 : Hp) =>
 Jv (fun (v72 : V) (H73 : Hp) =>
 Jv (fun (v76 : V) (H77 : Hp) =>
 R [v76] H77)
 (fun (R78 : V → Hp → Prop) =>
 aG v72.nod true (
 C.call 18 [] H73 fun (v79 : V) (H80 : Hp) =>
 R78 v79.nod H80) (
 R78 (B false) H73)))
 (fun (R74 : V → Hp → Prop) =>
 aG v63.nod true (
 C.aBin (Try.prog.underlying 3) .leq (l36.getD 1 .junk).nod.nod (l36.getD 3 .junk).nod.nod fun (v75 : V) =>
 R74 v75.nod H64) (
 R74 (B false) H64)))
 (fun (R65 : V → Hp → Prop) =>
 aG v62.nod true (
 C.aFA 0 1 false (l36.getD 0 .junk).nod fun (v66 : V) =>
 C.aLd 1 false false v66.nod H41 fun (v67 : V) (H68 : Hp) =>
 C.call 51 [v67.nod] H68 fun (v69 : V) (H70 : Hp) =>
 C.aBin (Try.prog.underlying 3) .eql (l36.getD 1 .junk).nod.nod v69.nod fun (v71 : V) =>
 R65 v71.nod H70) (
 R65 (B false) H41))))
 [(l33.getD 0 .junk), (l33.getD 1 .junk), (l33.getD 2 .junk), (I 0), (I 0)] H34)
 (fun (R35 : List V → Hp → Prop) =>
 C.aFA 0 1 false (l30.getD 0 .junk).nod fun (v81 : V) =>
 C.aLd 1 false false v81.nod H31 fun (v82 : V) (H83 : Hp) =>
 C.aLen v82.nod fun (v84 : V) =>
 C.aBin (Try.prog.underlying 3) .eql v84.nod (I 0) fun (v85 : V) =>
 aCond v85.nod (
 C.aBin (Try.prog.underlying 25) .eql (l30.getD 2 .junk).nod.nod (I 2) fun (v86 : V) =>
 Jv (fun (v87 : V) (H88 : Hp) =>
 Jv (fun (v91 : V) (H92 : Hp) =>
 R [v91] H92)
 (fun (R93 : V → Hp → Prop) =>
 aG v87.nod true (
 C.call 18 [] H88 fun (v94 : V) (H95 : Hp) =>
 R93 v94.nod H95) (
 R93 (B false) H88)))
 (fun (R89 : V → Hp → Prop) =>
 aG v86.nod true (
 C.aBin (Try.prog.underlying 3) .eql (l30.getD 1 .junk).nod.nod (I 0) fun (v90 : V) =>
 R89 v90.nod H83) (
 R89 (B false) H83))) (
 R35 [(l30.getD 0 .junk), (l30.getD 1 .junk), (l30.getD 2 .junk)] H83))))
 (fun (R32 : List V → Hp → Prop) =>
 C.aBin (Try.prog.underlying 25) .neq (l27.getD 2 .junk).nod.nod (I 0) fun (v96 : V) =>
 Jv (fun (v97 : V) (H98 : Hp) =>
 R32 [(l27.getD 0 .junk), (l27.getD 3 .junk), (l27.getD 4 .junk), v97] H98)
 (fun (R99 : V → Hp → Prop) =>
 aG v96.nod false (
 C.aFA 0 1 false (l27.getD 0 .junk).nod fun (v100 : V) =>
 C.aLd 1 false false v100.nod H28 fun (v101 : V) (H102 : Hp) =>
 C.call 50 [v101.nod] H102 fun (v103 : V) (H104 : Hp) =>
 C.aBin (Try.prog.underlying 3) .neq (l27.getD 1 .junk).nod.nod v103.nod fun (v105 : V) =>
 R99 v105.nod H104) (
 R99 (B true) H28))))
 (fun (R29 : List V → Hp → Prop) =>
 Jn (fun (l106 : List V) (H107 : Hp) =>
 C.aBin (Try.prog.underlying 25) .neq (l106.getD 5 .junk).nod.nod (I 0) fun (v109 : V) =>
 aCond v109.nod (
 C.aBin (Try.prog.underlying 25) .eql (l106.getD 2 .junk).nod.nod (l106.getD 5 .junk).nod.nod fun (v110 : V) =>
 Jv (fun (v111 : V) (H112 : Hp) =>
 Jv (fun (v115 : V) (H116 : Hp) =>
 Jv (fun (v119 : V) (H120 : Hp) =>
 Jv (fun (v123 : V) (H124 : Hp) =>
 R [v123] H124)
 (fun (R125 : V → Hp → Prop) =>
 aG v119.nod true (
 C.call 18 [] H120 fun (v126 : V) (H127 : Hp) =>
 R125 v126.nod H127) (
 R125 (B false) H120)))
 (fun (R121 : V → Hp → Prop) =>
 aG v115.nod true (
 C.aBin (Try.prog.underlying 3) .eql (l106.getD 3 .junk).nod.nod (I 0) fun (v122 : V) =>
 R121 v122.nod H116) (
 R121 (B false) H116)))
 (fun (R117 : V → Hp → Prop) =>
 aG v111.nod true (
 C.aBin (Try.prog.underlying 3) .eql (l106.getD 1 .junk).nod.nod (I 0) fun (v118 : V) =>
 R117 v118.nod H112) (
 R117 (B false) H112)))
 (fun (R113 : V → Hp → Prop) =>
 aG v110.nod true (
 C.aBin (Try.prog.underlying 25) .eql (l106.getD 4 .junk).nod.nod (l106.getD 5 .junk).nod.nod fun (v114 : V) =>
 R113 v114.nod H107) (
 R113 (B false) H107))) (
 R29 [(l106.getD 0 .junk), (l106.getD 1 .junk), (l106.getD 2 .junk), (l106.getD 3 .junk), (l106.getD 4 .junk)] H107))
 (fun (R108 : List V → Hp → Prop) =>
 C.aFA 0 1 false (l17.getD 0 .junk).nod fun (v128 : V) =>
 C.aLd 1 false false v128.nod H24 fun (v129 : V) (H130 : Hp) =>
 C.call 42 [v129.nod] H130 fun (v131 : V) (H132 : Hp) =>
 R108 [(l17.getD 0 .junk), (l17.getD 1 .junk), (l17.getD 2 .junk), v25, v26, v131] H132)))
 (fun (R19 : List V → Hp → Prop) =>
 C.aFA 0 1 false (l3.getD 0 .junk).nod fun (v133 : V) =>
 C.aLd 1 false false v133.nod H14 fun (v134 : V) (H135 : Hp) =>
 C.call 47 [v134.nod] H135 fun (v136 : V) (H137 : Hp) =>
 C.aExt 0 v136.nod.nod fun (v138 : V) =>
 C.aExt 1 v136.nod.nod fun (v139 : V) =>
 R19 [(l3.getD 0 .junk), v138, v139] H137))))
 (fun (R5 : List V → Hp → Prop) =>
 C.aFA 0 1 false v1.nod fun (v140 : V) =>
 C.aLd 1 false false v140.nod H2 fun (v141 : V) (H142 : Hp) =>
 C.call 17 [v141.nod] H142 fun (v143 : V) (H144 : Hp) =>
 C.aUn .not v143.nod fun (v145 : V) =>
 Jv (fun (v146 : V) (H147 : Hp) =>
 R5 [v1, v146] H147)
 (fun (R148 : V → Hp → Prop) =>
 aG v145.nod false (
 C.aFA 1 1 false v1.nod fun (v149 : V) =>
 C.aLd 1 false false v149.nod H144 fun (v150 : V) (H151 : Hp) =>
 C.aLen v150.nod fun (v152 : V) =>
 C.aBin (Try.prog.underlying 3) .gtr v152.nod (I 500) fun (v153 : V) =>
 R148 v153.nod H151) (
 R148 (B true) H144)))
theorem wf14 : (Nat.ble 1 Try.f14.ntmps && wfC an14 Try.f14.ntmps (Try.f14.body.getD .skip)) = true := by kernel_rfl
theorem tie14 (C : Cb) (a0 : V) (H : Hp) (R : List V → Hp → Prop) : wpG Try.prog C an14 (Try.f14.body.getD .skip) (argF [a0]) H (retG Try.prog C Try.f14 R) (fun _ _ _ => False) (retG Try.prog C Try.f14 R) = vc14 C a0 H R := by kernel_rfl
theorem mk14 (a0 : V) {H : Hp} {v : V} {H1 : Hp} (hd : v.Nd) (hn : H.length ≤ H1.length) (hb : H1 = H ∨ ∀ (b : Nat) (blk : Blk), H1[b]? = some blk → H[b]? = some blk ∨ BelB H1.length blk) (h : vc14 (real Try.prog) a0 H (retF v H1)) : Ret Try.prog 14 [a0] H v H1 :=
  ret_mk (an := an14) hm Try.call14 Try.func14 rfl wf14 hd hn hb (Eq.mpr (tie14 (real Try.prog) a0 H (retF v H1)) h)
theorem mko14 (a0 : V) {H : Hp} {xs : List V} {H1 : Hp} (hn : H.length ≤ H1.length) (hb : H1 = H ∨ ∀ (b : Nat) (blk : Blk), H1[b]? = some blk → H[b]? = some blk ∨ BelB H1.length blk) (h : vc14 (real Try.prog) a0 H (retO xs H1)) : Ret Try.prog 14 [a0] H (.arr xs .own) H1 :=
  ret_mko (an := an14) (t := 2) hm Try.call14 Try.func14 rfl wf14 rfl hn hb (Eq.mpr (tie14 (real Try.prog) a0 H (retO xs H1)) h)

end Go.Proofs.Ytehjfjdknllmhaa
