import Derived.Test.YtehjfjdknllmhaaAb23
import Derived.Test.YtehjfjdknllmhaaProg
import Derived.Test.YtehjfjdknllmhaaJV1
set_option linter.unusedVariables false
set_option maxRecDepth 20000
set_option maxHeartbeats 4000000
namespace Go.Proofs.Ytehjfjdknllmhaa
open Go Go.Ab Go.Proofs
/- declaim/declaimlaw07.JoinSteps -/
def an11 : An := { imm := [], jn := [(2, [0, 1, 2, 3, 40]), (4, [0, 1, 2, 3, 9, 10]), (6, [0, 1, 2, 3, 9, 10, 11, 12, 13, 14]), (8, [0, 1, 2, 3, 9, 11, 13, 15, 92]), (12, [0, 1, 2, 3, 9, 11, 13, 15, 17, 18])], lp := [(11, [0, 1, 2, 3, 9, 11, 13, 15, 17, 18])], loud := [156, 168, 171], ord := [] }
def vc11 (C : Cb) (a0 a1 a2 a3 : V) (H : Hp) (R : List V → Hp → Prop) : Prop :=
 Jn (fun (l1 : List V) (H2 : Hp) =>
 aCond (l1.getD 4 .junk).nod (
 C.call 18 [] H2 fun (v4 : V) (H5 : Hp) =>
 R [v4] H5) (
 Jn (fun (l6 : List V) (H7 : Hp) =>
 C.call 47 [(l6.getD 4 .junk).nod.nod] H7 fun (v9 : V) (H10 : Hp) =>
 C.aExt 0 v9.nod.nod fun (v11 : V) =>
 C.aExt 1 v9.nod.nod fun (v12 : V) =>
 Jn (fun (l13 : List V) (H14 : Hp) =>
 C.call 47 [(l13.getD 1 .junk).nod.nod] H14 fun (v16 : V) (H17 : Hp) =>
 C.aExt 0 v16.nod.nod fun (v18 : V) =>
 C.aExt 1 v16.nod.nod fun (v19 : V) =>
 Jn (fun (l20 : List V) (H21 : Hp) =>
 aCond (l20.getD 8 .junk).nod (
 R [(B false)] H21) (
 LoopA (fun (l23 : List V) (H24 : Hp) (K25 : List V → Hp → Prop) =>
 C.aBin (Try.prog.underlying 3) .lss (l23.getD 9 .junk).nod.nod (l23.getD 2 .junk).nod.nod fun (v26 : V) =>
 aCond v26.nod (
 Jn (fun (l27 : List V) (H28 : Hp) =>
 C.aBin (Try.prog.underlying 3) .add (l27.getD 9 .junk).nod.nod (I 1) fun (v30 : V) =>
 K25 [(l27.getD 0 .junk), (l27.getD 1 .junk), (l27.getD 2 .junk), (l27.getD 3 .junk), (l27.getD 4 .junk), (l27.getD 5 .junk), (l27.getD 6 .junk), (l27.getD 7 .junk), (l27.getD 8 .junk), v30] H28)
 (fun (R29 : List V → Hp → Prop) =>
 C.aLen (l23.getD 0 .junk).nod.nod fun (v31 : V) =>
 C.aBin (Try.prog.underlying 3) .sub v31.nod (l23.getD 2 .junk).nod.nod fun (v32 : V) =>
 C.aBin (Try.prog.underlying 3) .add v32.nod (l23.getD 9 .junk).nod.nod fun (v33 : V) =>
 C.aIx 1 (l23.getD 0 .junk).nod.nod v33.nod fun (v34 : V) =>
 C.aLd 1 false false v34.nod H24 fun (v35 : V) (H36 : Hp) =>
 C.aBin (Try.prog.underlying 3) .add (l23.getD 3 .junk).nod.nod (l23.getD 9 .junk).nod.nod fun (v37 : V) =>
 C.aIx 1 (l23.getD 1 .junk).nod.nod v37.nod fun (v38 : V) =>
 C.aLd 1 false false v38.nod H36 fun (v39 : V) (H40 : Hp) =>
 C.aBin (Try.prog.underlying 3) .sub v35.nod v39.nod fun (v41 : V) =>
 C.aBin (Try.prog.underlying 3) .add (l23.getD 3 .junk).nod.nod (l23.getD 9 .junk).nod.nod fun (v42 : V) =>
 C.aIx 1 (l23.getD 1 .junk).nod.nod v42.nod fun (v43 : V) =>
 C.aLd 1 false false v43.nod H40 fun (v44 : V) (H45 : Hp) =>
 C.aLen (l23.getD 0 .junk).nod.nod fun (v46 : V) =>
 C.aBin (Try.prog.underlying 3) .sub v46.nod (l23.getD 2 .junk).nod.nod fun (v47 : V) =>
 C.aBin (Try.prog.underlying 3) .add v47.nod (l23.getD 9 .junk).nod.nod fun (v48 : V) =>
 C.aIx 1 (l23.getD 0 .junk).nod.nod v48.nod fun (v49 : V) =>
 C.aLd 1 false false v49.nod H45 fun (v50 : V) (H51 : Hp) =>
 C.aBin (Try.prog.underlying 3) .sub v44.nod v50.nod fun (v52 : V) =>
 C.aMM true [(l23.getD 8 .junk).nod.nod, v41.nod, v52.nod] fun (v53 : V) =>
 R29 [(l23.getD 0 .junk), (l23.getD 1 .junk), (l23.getD 2 .junk), (l23.getD 3 .junk), (l23.getD 4 .junk), (l23.getD 5 .junk), (l23.getD 6 .junk), (l23.getD 7 .junk), v53, (l23.getD 9 .junk)] H51)) (
 C.aMM true [(l23.getD 6 .junk).nod.nod, (l23.getD 7 .junk).nod.nod] fun (v54 : V) =>
 C.aBin (Try.prog.underlying 3) .sub (l23.getD 5 .junk).nod.nod v54.nod fun (v55 : V) =>
 C.aBin (Try.prog.underlying 3) .sub v55.nod (I 1) fun (v56 : V) =>
 C.aBin (Try.prog.underlying 3) .add (l23.getD 2 .junk).nod.nod (I 1) fun (v57 : V) =>
 C.aBin (Try.prog.underlying 3) .mul v56.nod v57.nod fun (v58 : V) =>
 C.aBin (Try.prog.underlying 3) .leq v58.nod (l23.getD 8 .junk).nod.nod fun (v59 : V) =>
 Jv (fun (v60 : V) (H61 : Hp) =>
 Jv (fun (v71 : V) (H72 : Hp) =>
 Jv (fun (v80 : V) (H81 : Hp) =>
 R [v80] H81)
 (fun (R82 : V → Hp → Prop) =>
 aG v71.nod true (
 C.call 18 [] H72 fun (v83 : V) (H84 : Hp) =>
 R82 v83.nod H84) (
 R82 (B false) H72)))
 (fun (R73 : V → Hp → Prop) =>
 aG v60.nod true (
 C.aLen (l23.getD 0 .junk).nod.nod fun (v74 : V) =>
 C.aSlc 1 (l23.getD 4 .junk).nod.nod (some v74.nod) none none fun (v75 : V) =>
 C.aBin (Try.prog.underlying 3) .add (l23.getD 3 .junk).nod.nod (l23.getD 2 .junk).nod.nod fun (v76 : V) =>
 C.aSlc 1 (l23.getD 1 .junk).nod.nod (some v76.nod) none none fun (v77 : V) =>
 C.call 21 [v75.nod, v77.nod] H61 fun (v78 : V) (H79 : Hp) =>
 R73 v78.nod H79) (
 R73 (B false) H61)))
 (fun (R62 : V → Hp → Prop) =>
 aG v59.nod true (
 C.aLen (l23.getD 0 .junk).nod.nod fun (v63 : V) =>
 C.aBin (Try.prog.underlying 3) .sub v63.nod (l23.getD 2 .junk).nod.nod fun (v64 : V) =>
 C.aSlc 1 (l23.getD 4 .junk).nod.nod none (some v64.nod) none fun (v65 : V) =>
 C.aLen (l23.getD 0 .junk).nod.nod fun (v66 : V) =>
 C.aBin (Try.prog.underlying 3) .sub v66.nod (l23.getD 2 .junk).nod.nod fun (v67 : V) =>
 C.aSlc 1 (l23.getD 0 .junk).nod.nod none (some v67.nod) none fun (v68 : V) =>
 C.call 21 [v65.nod, v68.nod] H24 fun (v69 : V) (H70 : Hp) =>
 R62 v69.nod H70) (
 R62 (B false) H24))))
 [(l20.getD 0 .junk), (l20.getD 1 .junk), (l20.getD 2 .junk), (l20.getD 3 .junk), (l20.getD 4 .junk), (l20.getD 5 .junk), (l20.getD 6 .junk), (l20.getD 7 .junk), (I 0), (I 0)] H21))
 (fun (R22 : List V → Hp → Prop) =>
 C.aBin (Try.prog.underlying 25) .neq (l13.getD 5 .junk).nod.nod (I 0) fun (v85 : V) =>
 Jv (fun (v86 : V) (H87 : Hp) =>
 Jv (fun (v90 : V) (H91 : Hp) =>
 Jv (fun (v94 : V) (H95 : Hp) =>
 Jv (fun (v98 : V) (H99 : Hp) =>
 R22 [(l13.getD 0 .junk), (l13.getD 1 .junk), (l13.getD 2 .junk), (l13.getD 3 .junk), (l13.getD 4 .junk), (l13.getD 6 .junk), (l13.getD 8 .junk), v18, v98] H99)
 (fun (R100 : V → Hp → Prop) =>
 aG v94.nod false (
 C.aLen (l13.getD 4 .junk).nod.nod fun (v101 : V) =>
 C.aLen (l13.getD 0 .junk).nod.nod fun (v102 : V) =>
 C.aLen (l13.getD 1 .junk).nod.nod fun (v103 : V) =>
 C.aBin (Try.prog.underlying 3) .add v102.nod v103.nod fun (v104 : V) =>
 C.aBin (Try.prog.underlying 3) .sub v104.nod (l13.getD 2 .junk).nod.nod fun (v105 : V) =>
 C.aBin (Try.prog.underlying 3) .sub v105.nod (l13.getD 3 .junk).nod.nod fun (v106 : V) =>
 C.aBin (Try.prog.underlying 3) .neq v101.nod v106.nod fun (v107 : V) =>
 R100 v107.nod H95) (
 R100 (B true) H95)))
 (fun (R96 : V → Hp → Prop) =>
 aG v90.nod false (
 C.aBin (Try.prog.underlying 25) .neq v19.nod.nod (I 0) fun (v97 : V) =>
 R96 v97.nod H91) (
 R96 (B true) H91)))
 (fun (R92 : V → Hp → Prop) =>
 aG v86.nod false (
 C.aBin (Try.prog.underlying 25) .neq (l13.getD 9 .junk).nod.nod (I 0) fun (v93 : V) =>
 R92 v93.nod H87) (
 R92 (B true) H87)))
 (fun (R88 : V → Hp → Prop) =>
 aG v85.nod false (
 C.aBin (Try.prog.underlying 25) .neq (l13.getD 7 .junk).nod.nod (I 0) fun (v89 : V) =>
 R88 v89.nod H17) (
 R88 (B true) H17))))
 (fun (R15 : List V → Hp → Prop) =>
 C.call 47 [(l6.getD 0 .junk).nod.nod] H10 fun (v108 : V) (H109 : Hp) =>
 C.aExt 0 v108.nod.nod fun (v110 : V) =>
 C.aExt 1 v108.nod.nod fun (v111 : V) =>
 R15 [(l6.getD 0 .junk), (l6.getD 1 .junk), (l6.getD 2 .junk), (l6.getD 3 .junk), (l6.getD 4 .junk), (l6.getD 5 .junk), v11, v12, v110, v111] H109))
 (fun (R8 : List V → Hp → Prop) =>
 C.call 46 [(l1.getD 0 .junk).nod.nod, (l1.getD 1 .junk).nod.nod, (l1.getD 2 .junk).nod.nod, (l1.getD 3 .junk).nod.nod] H2 fun (v112 : V) (H113 : Hp) =>
 C.aExt 0 v112.nod.nod fun (v114 : V) =>
 C.aExt 1 v112.nod.nod fun (v115 : V) =>
 R8 [(l1.getD 0 .junk), (l1.getD 1 .junk), (l1.getD 2 .junk), (l1.getD 3 .junk), v114, v115] H113)))
 (fun (R3 : List V → Hp → Prop) =>
 C.aLen a0.nod.nod fun (v116 : V) =>
 C.aBin (Try.prog.underlying 3) .gtr v116.nod (I 400) fun (v117 : V) =>
 Jv (fun (v118 : V) (H119 : Hp) =>
 Jv (fun (v123 : V) (H124 : Hp) =>
 Jv (fun (v129 : V) (H130 : Hp) =>
 R3 [a0, a1, a2, a3, v129] H130)
 (fun (R131 : V → Hp → Prop) =>
 aG v123.nod false (
 C.call 45 [a0.nod.nod, a1.nod.nod, a2.nod.nod, a3.nod.nod] H124 fun (v132 : V) (H133 : Hp) =>
 C.aUn .not v132.nod fun (v134 : V) =>
 R131 v134.nod H133) (
 R131 (B true) H124)))
 (fun (R125 : V → Hp → Prop) =>
 aG v118.nod false (
 C.call 20 [a0.nod.nod, a1.nod.nod] H119 fun (v126 : V) (H127 : Hp) =>
 C.aBin (Try.prog.underlying 25) .neq v126.nod (I 0) fun (v128 : V) =>
 R125 v128.nod H127) (
 R125 (B true) H119)))
 (fun (R120 : V → Hp → Prop) =>
 aG v117.nod false (
 C.aLen a1.nod.nod fun (v121 : V) =>
 C.aBin (Try.prog.underlying 3) .gtr v121.nod (I 400) fun (v122 : V) =>
 R120 v122.nod H) (
 R120 (B true) H)))
theorem wf11 : (Nat.ble 4 Try.f11.ntmps && wfC an11 Try.f11.ntmps (Try.f11.body.getD .skip)) = true := by kernel_rfl
theorem tie11 (C : Cb) (a0 a1 a2 a3 : V) (H : Hp) (R : List V → Hp → Prop) : wpG Try.prog C an11 (Try.f11.body.getD .skip) (argF [a0, a1, a2, a3]) H (retG Try.prog C Try.f11 R) (fun _ _ _ => False) (retG Try.prog C Try.f11 R) = vc11 C a0 a1 a2 a3 H R := by kernel_rfl
theorem mk11 (a0 a1 a2 a3 : V) {H : Hp} {v : V} {H1 : Hp} (hd : v.Nd) (hn : H.length ≤ H1.length) (hb : H1 = H ∨ ∀ (b : Nat) (blk : Blk), H1[b]? = some blk → H[b]? = some blk ∨ BelB H1.length blk) (h : vc11 (real Try.prog) a0 a1 a2 a3 H (retF v H1)) : Ret Try.prog 11 [a0, a1, a2, a3] H v H1 :=
  ret_mk (an := an11) hm Try.call11 Try.func11 rfl wf11 hd hn hb (Eq.mpr (tie11 (real Try.prog) a0 a1 a2 a3 H (retF v H1)) h)
theorem mko11 (a0 a1 a2 a3 : V) {H : Hp} {xs : List V} {H1 : Hp} (hn : H.length ≤ H1.length) (hb : H1 = H ∨ ∀ (b : Nat) (blk : Blk), H1[b]? = some blk → H[b]? = some blk ∨ BelB H1.length blk) (h : vc11 (real Try.prog) a0 a1 a2 a3 H (retO xs H1)) : Ret Try.prog 11 [a0, a1, a2, a3] H (.arr xs .own) H1 :=
  ret_mko (an := an11) (t := 8) hm Try.call11 Try.func11 rfl wf11 rfl hn hb (Eq.mpr (tie11 (real Try.prog) a0 a1 a2 a3 H (retO xs H1)) h)

end Go.Proofs.Ytehjfjdknllmhaa
