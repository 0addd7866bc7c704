/- The machinery of the proof, part 6: an abstract machine over list values, proved sound against the model, and the contracts of the functions that the law reaches. No condition. -/
import Derived.Test.YtgodfjbmblghnaaS5
import Derived.Test.YtgodfjbmblghnaaProg
import Derived.ChangeSame
import Derived.WalkKit
import Derived.ProofKit
import Derived.OpenShut
import Derived.ShutString
import Derived.ChangeOld
import Derived.Below
set_option linter.unusedVariables false
set_option maxRecDepth 20000
set_option maxHeartbeats 4000000
namespace Go.Proofs.Ytgodfjbmblghnaa
open Go Go.Ab Go.Proofs
def an15 : An := { imm := [1, 33, 67, 71, 80], jn := [(3, [1, 2, 3]), (5, [1, 2, 3, 4, 5, 6, 7]), (7, [2, 3, 4, 5, 6, 7, 8, 9, 10, 11]), (8, [2, 4, 6, 8, 10, 65])], lp := [], loud := [], ord := [] }
def vc15 (C : Cb) (H : Hp) (R : List V → Hp → Prop) : Prop :=
 C.callE 41 [] H fun v1 H2 =>
 C.aBx true 7 v1.nod H2 fun v3 H4 =>
 Jn (fun l5 H6 =>
 C.aLd 7 true false (l5.getD 0 .junk).nod H6 fun v8 H9 =>
 C.aBd [(I 0), (I 0), (I 0), (I 0)] [(0, 1, (I 105))] fun v10 =>
 C.callE 20 [v8.nod, v10.nod] H9 fun v11 H12 =>
 C.aExt 0 v11.nod.nod fun v13 =>
 C.aExt 1 v11.nod.nod fun v14 =>
 Jn (fun l15 H16 =>
 C.aLd 7 true false (l15.getD 0 .junk).nod H16 fun v18 H19 =>
 C.aBd [(I 0), (I 0), (I 0), (I 0)] [(0, 1, (I 99))] fun v20 =>
 C.aBS 1 2 (V.imm (.string (ByteArray.mk #[]))) [(0, (V.imm (.string (ByteArray.mk #[116, 104, 114, 101, 101])))), (1, (V.imm (.string (ByteArray.mk #[116, 121]))))] fun v21 =>
 C.callE 27 [v18.nod, v20.nod, (noV v21).nod] H19 fun v22 H23 =>
 C.aExt 0 v22.nod.nod fun v24 =>
 C.aExt 1 v22.nod.nod fun v25 =>
 Jn (fun l26 H27 =>
 Jn (fun l29 H30 =>
 aCond (l29.getD 5 .junk).nod (
 R [(B false)] H30) (
 C.aBS 1 5 (V.imm (.string (ByteArray.mk #[]))) [(0, (V.imm (.string (ByteArray.mk #[116, 119, 111])))), (1, (V.imm (.string (ByteArray.mk #[104, 117, 110, 100, 114, 101, 100, 115])))), (2, (V.imm (.string (ByteArray.mk #[102, 111, 117, 114])))), (3, (V.imm (.string (ByteArray.mk #[116, 121])))), (4, (V.imm (.string (ByteArray.mk #[116, 119, 111]))))] fun v32 =>
 C.callE 25 [(l29.getD 0 .junk).nod.nod, (noV v32).nod] H30 fun v33 H34 =>
 Jv (fun v35 H36 =>
 Jv (fun v41 H42 =>
 Jv (fun v45 H46 =>
 Jv (fun v51 H52 =>
 Jv (fun v59 H60 =>
 R [v59] H60)
 (fun R61 =>
 aG v51.nod true (
 C.aIx 6 (l29.getD 4 .junk).nod.nod (I 1) fun v62 =>
 C.aLd 6 true false v62.nod H52 fun v63 H64 =>
 C.aBd [(V.imm (.string (ByteArray.mk #[]))), (I 0), (I 0), (I 0), (I 0), (I 0)] [(0, 1, (V.imm (.string (ByteArray.mk #[116, 121])))), (1, 1, (I 30)), (3, 1, (I 10)), (4, 1, (I 1))] fun v65 =>
 C.aEqS 50 .eql v63.nod v65.nod fun v66 =>
 R61 v66.nod H64) (
 R61 (B false) H52)))
 (fun R53 =>
 aG v45.nod true (
 C.aIx 6 (l29.getD 4 .junk).nod.nod (I 0) fun v54 =>
 C.aLd 6 true false v54.nod H46 fun v55 H56 =>
 C.aBd [(V.imm (.string (ByteArray.mk #[]))), (I 0), (I 0), (I 0), (I 0), (I 0)] [(0, 1, (V.imm (.string (ByteArray.mk #[116, 104, 114, 101, 101])))), (1, 1, (I 3)), (3, 1, (I 3)), (5, 1, (I 1))] fun v57 =>
 C.aEqS 50 .eql v55.nod v57.nod fun v58 =>
 R53 v58.nod H56) (
 R53 (B false) H46)))
 (fun R47 =>
 aG v41.nod true (
 C.aBS 1 1 (I 0) [(0, (I 30))] fun v48 =>
 C.callE 29 [(l29.getD 3 .junk).nod.nod, (noV v48).nod] H42 fun v49 H50 =>
 R47 v49.nod H50) (
 R47 (B false) H42)))
 (fun R43 =>
 aG v35.nod true (
 C.aBin (Try.prog.underlying 3) .eql (l29.getD 2 .junk).nod.nod (I 1) fun v44 =>
 R43 v44.nod H36) (
 R43 (B false) H36)))
 (fun R37 =>
 aG v33.nod true (
 C.aBS 1 4 (V.imm (.string (ByteArray.mk #[]))) [(0, (V.imm (.string (ByteArray.mk #[111, 110, 101])))), (1, (V.imm (.string (ByteArray.mk #[104, 117, 110, 100, 114, 101, 100])))), (2, (V.imm (.string (ByteArray.mk #[97, 110, 100])))), (3, (V.imm (.string (ByteArray.mk #[102, 105, 118, 101]))))] fun v38 =>
 C.callE 25 [(l29.getD 1 .junk).nod.nod, (noV v38).nod] H34 fun v39 H40 =>
 R37 v39.nod H40) (
 R37 (B false) H34))))
 (fun R31 =>
 C.aBin (Try.prog.underlying 29) .neq (l26.getD 1 .junk).nod.nod (I 0) fun v67 =>
 Jv (fun v68 H69 =>
 Jv (fun v72 H73 =>
 Jv (fun v76 H77 =>
 Jv (fun v80 H81 =>
 Jv (fun v84 H85 =>
 R31 [(l26.getD 0 .junk), (l26.getD 2 .junk), (l26.getD 4 .junk), (l26.getD 6 .junk), (l26.getD 8 .junk), v84] H85)
 (fun R86 =>
 aG v80.nod false (
 C.aLen (l26.getD 8 .junk).nod.nod fun v87 =>
 C.aBin (Try.prog.underlying 3) .neq v87.nod (I 2) fun v88 =>
 R86 v88.nod H81) (
 R86 (B true) H81)))
 (fun R82 =>
 aG v76.nod false (
 C.aBin (Try.prog.underlying 29) .neq (l26.getD 9 .junk).nod.nod (I 0) fun v83 =>
 R82 v83.nod H77) (
 R82 (B true) H77)))
 (fun R78 =>
 aG v72.nod false (
 C.aBin (Try.prog.underlying 29) .neq (l26.getD 7 .junk).nod.nod (I 0) fun v79 =>
 R78 v79.nod H73) (
 R78 (B true) H73)))
 (fun R74 =>
 aG v68.nod false (
 C.aBin (Try.prog.underlying 29) .neq (l26.getD 5 .junk).nod.nod (I 0) fun v75 =>
 R74 v75.nod H69) (
 R74 (B true) H69)))
 (fun R70 =>
 aG v67.nod false (
 C.aBin (Try.prog.underlying 29) .neq (l26.getD 3 .junk).nod.nod (I 0) fun v71 =>
 R70 v71.nod H27) (
 R70 (B true) H27))))
 (fun R28 =>
 C.aLd 7 true false (l15.getD 0 .junk).nod H23 fun v89 H90 =>
 C.aBd [(I 0), (I 0), (I 0), (I 0)] [(0, 1, (I 30))] fun v91 =>
 C.callE 21 [v89.nod, v91.nod] H90 fun v92 H93 =>
 C.aExt 0 v92.nod.nod fun v94 =>
 C.aExt 1 v92.nod.nod fun v95 =>
 R28 [(l15.getD 1 .junk), (l15.getD 2 .junk), (l15.getD 3 .junk), (l15.getD 4 .junk), (l15.getD 5 .junk), (l15.getD 6 .junk), v24, v25, v94, v95] H93))
 (fun R17 =>
 C.aLd 7 true false (l5.getD 0 .junk).nod H12 fun v96 H97 =>
 C.callE 16 [v96.nod, (I 1000001)] H97 fun v98 H99 =>
 C.aExt 0 v98.nod.nod fun v100 =>
 C.aExt 1 v98.nod.nod fun v101 =>
 R17 [(l5.getD 0 .junk), (l5.getD 1 .junk), (l5.getD 2 .junk), v13, v14, v100, v101] H99))
 (fun R7 =>
 C.aLd 7 true false v3.nod H4 fun v102 H103 =>
 C.aBd [(I 0), (I 0), (I 0), (I 0)] [(0, 1, (I 242))] fun v104 =>
 C.callE 20 [v102.nod, v104.nod] H103 fun v105 H106 =>
 C.aExt 0 v105.nod.nod fun v107 =>
 C.aExt 1 v105.nod.nod fun v108 =>
 R7 [v3, v107, v108] H106)
theorem wf15 : (Nat.ble 0 Try.f15.ntmps && wfC an15 Try.f15.ntmps (Try.f15.body.getD .skip)) = true := by kernel_rfl
theorem tie15 (C : Cb) (H : Hp) (R : List V → Hp → Prop) : wpG Try.prog C an15 (Try.f15.body.getD .skip) (argF []) H (retG Try.prog C Try.f15 R) (fun _ _ _ => False) (retG Try.prog C Try.f15 R) = vc15 C H R := by kernel_rfl
theorem mk15 {H : Hp} {v : V} {H1 : Hp} (hd : v.Nd) (hn : H.length ≤ H1.length) (hb : H1 = H ∨ ∀ (b : Nat) (blk : Blk), H1[b]? = some blk → H[b]? = some blk ∨ BelB H1.length blk) (h : vc15 (real Try.prog) H (retF v H1)) : Ret Try.prog 15 [] H v H1 :=
  ret_mk (an := an15) hm Try.call15 Try.func15 rfl wf15 hd hn hb (Eq.mpr (tie15 (real Try.prog) H (retF v H1)) h)
def an41 : An := { imm := [5, 7, 22, 24, 33, 35, 41, 44, 46, 53, 55, 62, 64, 67], jn := [(6, [0, 1, 2, 3, 4]), (8, [0, 1, 2, 3, 4]), (11, [0, 2, 3]), (13, [0, 2, 3])], lp := [(5, [0, 1, 2, 3, 4])], loud := [], ord := [] }
def vc41 (C : Cb) (H : Hp) (R : List V → Hp → Prop) : Prop :=
 C.aBx false 7 (V.agg [(I 0), (I 0), (I 0), (I 0), (V.arr [] .full), (V.arr [] .full), (V.arr [] .full)]) H fun v1 H2 =>
 C.aBS 1 12 (V.imm (.string (ByteArray.mk #[]))) [(0, (V.imm (.string (ByteArray.mk #[122, 101, 114, 111])))), (1, (V.imm (.string (ByteArray.mk #[111, 110, 101])))), (2, (V.imm (.string (ByteArray.mk #[116, 119, 111])))), (3, (V.imm (.string (ByteArray.mk #[116, 104, 114, 101, 101])))), (4, (V.imm (.string (ByteArray.mk #[102, 111, 117, 114])))), (5, (V.imm (.string (ByteArray.mk #[102, 105, 118, 101])))), (6, (V.imm (.string (ByteArray.mk #[115, 105, 120])))), (7, (V.imm (.string (ByteArray.mk #[115, 101, 118, 101, 110])))), (8, (V.imm (.string (ByteArray.mk #[101, 105, 103, 104, 116])))), (9, (V.imm (.string (ByteArray.mk #[110, 105, 110, 101])))), (10, (V.imm (.string (ByteArray.mk #[116, 101, 101, 110])))), (11, (V.imm (.string (ByteArray.mk #[116, 121]))))] fun v3 =>
 C.aBd [(I 0), (I 0), (I 0), (I 0)] [(0, 1, (I 1000000)), (1, 1, (I 1)), (2, 1, (I 1)), (3, 1, (I 1))] fun v4 =>
 C.aBS 4 1 (V.agg [(I 0), (I 0), (I 0), (I 0)]) [(0, v4.nod)] fun v5 =>
 C.aBd [(I 0), (I 0), (I 0), (I 0), (V.arr [] .full), (V.arr [] .full), (V.arr [] .full)] [(0, 1, (I 999)), (1, 1, (I 1)), (2, 1, (I 1)), (3, 1, (I 2)), (5, 1, (noV v5).nod.nod)] fun v6 =>
 C.aBx false 7 (V.agg [(I 0), (I 0), (I 0), (I 0), (V.arr [] .full), (V.arr [] .full), (V.arr [] .full)]) H2 fun v7 H8 =>
 C.aSt 7 v7.nod v6 H8 fun v9 H10 =>
 LoopA (fun l11 H12 K13 =>
 C.aLen (l11.getD 1 .junk).nod.nod fun v14 =>
 C.aBin (Try.prog.underlying 3) .lss (l11.getD 4 .junk).nod.nod v14.nod fun v15 =>
 aCond v15.nod (
 Jn (fun l16 H17 =>
 C.aBin (Try.prog.underlying 3) .add (l16.getD 4 .junk).nod.nod (I 1) fun v19 =>
 K13 [(l16.getD 0 .junk), (l16.getD 1 .junk), (l16.getD 2 .junk), (l16.getD 3 .junk), v19] H17)
 (fun R18 =>
 Jn (fun l20 H21 =>
 C.aBin (Try.prog.underlying 3) .lss (l20.getD 4 .junk).nod.nod (I 10) fun v23 =>
 aCond v23.nod (
 C.aBd [(I 0), (I 0), (I 0), (I 0)] [(0, 1, (I 1)), (1, 1, (l20.getD 4 .junk).nod.nod.nod)] fun v24 =>
 C.aBS 4 1 (V.agg [(I 0), (I 0), (I 0), (I 0)]) [(0, v24.nod)] fun v25 =>
 C.aBd [(I 0), (I 0), (V.arr [] .full)] [(0, 1, (l20.getD 4 .junk).nod.nod), (2, 1, (noV v25).nod.nod)] fun v26 =>
 C.aBS 3 1 (V.agg [(I 0), (I 0), (V.arr [] .full)]) [(0, (own0 v26 (l20.getD 4 .junk).nod).nod)] fun v27 =>
 C.aApp 3 40 (l20.getD 3 .junk) (noV v27).nod fun v28 =>
 R18 [(l20.getD 0 .junk), (l20.getD 1 .junk), (l20.getD 2 .junk), v28, (l20.getD 4 .junk)] H21) (
 R18 [(l20.getD 0 .junk), (l20.getD 1 .junk), (l20.getD 2 .junk), (l20.getD 3 .junk), (l20.getD 4 .junk)] H21))
 (fun R22 =>
 C.aFA 4 1 false (l11.getD 2 .junk).nod fun v29 =>
 C.aLd 1 false true v29.nod H12 fun v30 H31 =>
 C.aIx 1 (l11.getD 1 .junk).nod.nod (l11.getD 4 .junk).nod.nod fun v32 =>
 C.aLd 1 false false v32.nod H31 fun v33 H34 =>
 C.aBd [(I 0), (I 0), (I 0), (V.imm (.string (ByteArray.mk #[])))] [(0, 1, (I (-1))), (1, 1, (I (-1))), (2, 1, (I (-1))), (3, 1, v33.nod.nod)] fun v35 =>
 C.aBS 4 1 (V.agg [(I 0), (I 0), (I 0), (V.imm (.string (ByteArray.mk #[])))]) [(0, v35.nod)] fun v36 =>
 C.aBd [(I 0), (V.arr [] .full)] [(1, 1, (noV v36).nod.nod)] fun v37 =>
 C.aBS 2 1 (V.agg [(I 0), (V.arr [] .full)]) [(0, v37.nod)] fun v38 =>
 C.aApp 2 32 v30 (noV v38).nod fun v39 =>
 C.aFA 4 1 false (l11.getD 2 .junk).nod fun v40 =>
 C.aSt 1 v40.nod v39 H34 fun v41 H42 =>
 R22 [(l11.getD 0 .junk), (l11.getD 1 .junk), (l11.getD 2 .junk), (l11.getD 3 .junk), (l11.getD 4 .junk)] H42))) (
 Jn (fun l43 H44 =>
 C.aBd [(I 0), (I 0), (I 0), (I 0)] [(0, 1, (I 3))] fun v46 =>
 C.aBd [(I 0), (I 0), (I 0), (I 0)] [(0, 1, (I 1)), (1, 1, (I 11))] fun v47 =>
 C.aBd [(I 0), (I 0), (I 0), (I 0)] [(0, 1, (I 4))] fun v48 =>
 C.aBS 4 3 (V.agg [(I 0), (I 0), (I 0), (I 0)]) [(0, v46.nod), (1, v47.nod), (2, v48.nod)] fun v49 =>
 C.aBd [(I 0), (I 0), (V.arr [] .full)] [(0, 1, (I 10)), (1, 1, (I 10)), (2, 1, (noV v49).nod.nod)] fun v50 =>
 C.aBS 3 1 (V.agg [(I 0), (I 0), (V.arr [] .full)]) [(0, v50.nod)] fun v51 =>
 C.aApp 3 40 (l43.getD 2 .junk) (noV v51).nod fun v52 =>
 Jn (fun l53 H54 =>
 C.aBS 1 1 (V.arr [] .full) [(0, (l53.getD 2 .junk).nod.nod)] fun v56 =>
 C.aFA 6 1 false (l53.getD 1 .junk).nod fun v57 =>
 C.aSt 1 v57.nod (noV v56) H54 fun v58 H59 =>
 C.aLd 7 true false (l53.getD 1 .junk).nod H59 fun v60 H61 =>
 C.aSt 7 (l53.getD 0 .junk).nod v60 H61 fun v62 H63 =>
 C.aRes 7 true (l53.getD 0 .junk) H63 fun v64 =>
 R [v64] H63)
 (fun R55 =>
 C.aBd [(I 0), (I 0), (I 0), (I 0)] [(0, 1, (I 3))] fun v65 =>
 C.aBd [(I 0), (I 0), (I 0), (I 0)] [(0, 1, (I 2)), (1, 1, (I 12))] fun v66 =>
 C.aBd [(I 0), (I 0), (I 0), (I 0)] [(0, 1, (I 5)), (1, 1, (I 13)), (3, 1, (I 10))] fun v67 =>
 C.aBd [(I 0), (I 0), (I 0), (I 0)] [(0, 1, (I 4))] fun v68 =>
 C.aBS 4 4 (V.agg [(I 0), (I 0), (I 0), (I 0)]) [(0, v65.nod), (1, v66.nod), (2, v67.nod), (3, v68.nod)] fun v69 =>
 C.aBd [(I 0), (I 0), (V.arr [] .full)] [(0, 1, (I 100)), (1, 1, (I 100)), (2, 1, (noV v69).nod.nod)] fun v70 =>
 C.aBS 3 1 (V.agg [(I 0), (I 0), (V.arr [] .full)]) [(0, v70.nod)] fun v71 =>
 C.aApp 3 40 v52 (noV v71).nod fun v72 =>
 R55 [(l43.getD 0 .junk), (l43.getD 1 .junk), v72] H44))
 (fun R45 =>
 C.aFA 4 1 false (l11.getD 2 .junk).nod fun v73 =>
 C.aLd 1 false true v73.nod H12 fun v74 H75 =>
 C.aBd [(I 0), (I 0), (I 0), (V.imm (.string (ByteArray.mk #[])))] [(0, 1, (I (-1))), (1, 1, (I (-1))), (2, 1, (I 1)), (3, 1, (V.imm (.string (ByteArray.mk #[104, 117, 110, 100, 114, 101, 100]))))] fun v76 =>
 C.aBd [(I 0), (I 0), (I 0), (V.imm (.string (ByteArray.mk #[])))] [(0, 1, (I (-1))), (1, 1, (I (-1))), (2, 1, (I (-1))), (3, 1, (V.imm (.string (ByteArray.mk #[104, 117, 110, 100, 114, 101, 100, 115]))))] fun v77 =>
 C.aBS 4 2 (V.agg [(I 0), (I 0), (I 0), (V.imm (.string (ByteArray.mk #[])))]) [(0, v76.nod), (1, v77.nod)] fun v78 =>
 C.aBd [(I 0), (V.arr [] .full)] [(1, 1, (noV v78).nod.nod)] fun v79 =>
 C.aBd [(I 0), (I 0), (I 0), (V.imm (.string (ByteArray.mk #[])))] [(0, 1, (I (-1))), (1, 1, (I (-1))), (2, 1, (I (-1))), (3, 1, (V.imm (.string (ByteArray.mk #[97, 110, 100]))))] fun v80 =>
 C.aBS 4 1 (V.agg [(I 0), (I 0), (I 0), (V.imm (.string (ByteArray.mk #[])))]) [(0, v80.nod)] fun v81 =>
 C.aBd [(I 0), (V.arr [] .full)] [(1, 1, (noV v81).nod.nod)] fun v82 =>
 C.aBS 2 2 (V.agg [(I 0), (V.arr [] .full)]) [(0, v79.nod), (1, v82.nod)] fun v83 =>
 C.aApp 2 32 v74 (noV v83).nod fun v84 =>
 C.aFA 4 1 false (l11.getD 2 .junk).nod fun v85 =>
 C.aSt 1 v85.nod v84 H75 fun v86 H87 =>
 R45 [(l11.getD 0 .junk), (l11.getD 2 .junk), (l11.getD 3 .junk)] H87)))
 [v1, (noV v3), v7, (V.arr [] .full), (I 0)] H10
theorem wf41 : (Nat.ble 0 Try.f41.ntmps && wfC an41 Try.f41.ntmps (Try.f41.body.getD .skip)) = true := by kernel_rfl
theorem tie41 (C : Cb) (H : Hp) (R : List V → Hp → Prop) : wpG Try.prog C an41 (Try.f41.body.getD .skip) (argF []) H (retG Try.prog C Try.f41 R) (fun _ _ _ => False) (retG Try.prog C Try.f41 R) = vc41 C H R := by kernel_rfl
theorem mk41 {H : Hp} {v : V} {H1 : Hp} (hd : v.Nd) (hn : H.length ≤ H1.length) (hb : H1 = H ∨ ∀ (b : Nat) (blk : Blk), H1[b]? = some blk → H[b]? = some blk ∨ BelB H1.length blk) (h : vc41 (real Try.prog) H (retF v H1)) : Ret Try.prog 41 [] H v H1 :=
  ret_mk (an := an41) hm Try.call41 Try.func41 rfl wf41 hd hn hb (Eq.mpr (tie41 (real Try.prog) H (retF v H1)) h)
end Go.Proofs.Ytgodfjbmblghnaa


set_option linter.unusedVariables false
set_option linter.unusedSimpArgs false
set_option linter.unnecessarySimpa false
set_option maxRecDepth 20000
set_option maxHeartbeats 2000000
namespace Go.Proofs.Ytgodfjbmblghnaa
open Go Go.Ab Go.Proofs
attribute [local congr] g_bin g_nilS g_nilP g_un g_ext g_bx g_fa g_ld g_st g_ix g_ixA g_slc g_mk g_bs g_bd g_nc g_cv g_len g_lenT g_app g_appB g_cpy g_mm g_call g_callG g_calm g_calmG g_range g_res g_pick g_cond g_loop g_Jv g_eqS g_eqP g_fd g_ixT g_ta g_lkp g_upd g_mkM g_appS g_inv g_callE g_callEG g_invE g_zr g_wr
def enW : List ByteArray := [⟨#[122, 101, 114, 111]⟩, ⟨#[111, 110, 101]⟩, ⟨#[116, 119, 111]⟩, ⟨#[116, 104, 114, 101, 101]⟩, ⟨#[102, 111, 117, 114]⟩, ⟨#[102, 105, 118, 101]⟩, ⟨#[115, 105, 120]⟩, ⟨#[115, 101, 118, 101, 110]⟩, ⟨#[101, 105, 103, 104, 116]⟩, ⟨#[110, 105, 110, 101]⟩, ⟨#[116, 101, 101, 110]⟩, ⟨#[116, 121]⟩]
def enT (x : ByteArray) : Te := ⟨0, [⟨-1, -1, -1, x⟩]⟩
def enN (i : Nat) : Nu := ⟨i, 0, [⟨1, i, 0, 0⟩]⟩
def enH : Te := ⟨0, [⟨-1, -1, 1, ⟨#[104, 117, 110, 100, 114, 101, 100]⟩⟩, ⟨-1, -1, -1, ⟨#[104, 117, 110, 100, 114, 101, 100, 115]⟩⟩]⟩
def enA : Te := enT ⟨#[97, 110, 100]⟩
def enX : Nu := ⟨10, 10, [⟨3, 0, 0, 0⟩, ⟨1, 11, 0, 0⟩, ⟨4, 0, 0, 0⟩]⟩
def enC : Nu := ⟨100, 100, [⟨3, 0, 0, 0⟩, ⟨2, 12, 0, 0⟩, ⟨5, 13, 0, 10⟩, ⟨4, 0, 0, 0⟩]⟩
def enP : Pl := ⟨1000000, 1, 1, 1⟩
def enS : Sy := ⟨999, 1, 1, 2, enW.map enT ++ [enH, enA], [enP], [(List.range 10).map enN ++ [enX, enC]]⟩
theorem bsW (a0 a1 a2 a3 a4 a5 a6 a7 a8 a9 a10 a11 : ByteArray) (z : V) (K : V → Prop) : aBS 1 12 z [(0, T a0), (1, T a1), (2, T a2), (3, T a3), (4, T a4), (5, T a5), (6, T a6), (7, T a7), (8, T a8), (9, T a9), (10, T a10), (11, T a11)] K = K (.arr [T a0, T a1, T a2, T a3, T a4, T a5, T a6, T a7, T a8, T a9, T a10, T a11] .full) := by
  have h : ∀ x, (okE 1 (T x)) = True := fun x => eq_true (okE_imm _ rfl)
  simp [aBS, aPs, setP, h]
theorem okPi4 (a b c d : Int) : okE 4 (.agg [I a, I b, I c, I d]) = True := eq_true ⟨rfl, fun x hx => by
  simp only [V.cl, List.mem_cons, List.not_mem_nil, or_false] at hx
  rcases hx with rfl | rfl | rfl | rfl <;> rfl⟩
theorem okFo4 (a b c : Int) (d : ByteArray) : okE 4 (.agg [I a, I b, I c, T d]) = True := eq_true ⟨rfl, fun x hx => by
  simp only [V.cl, List.mem_cons, List.not_mem_nil, or_false] at hx
  rcases hx with rfl | rfl | rfl | rfl <;> rfl⟩
theorem okTe2 (a : Int) (l : List V) : okE 2 (.agg [I a, .arr l .no]) = True := eq_true ⟨rfl, fun x hx => by
  simp only [V.cl, List.mem_cons, List.not_mem_nil, or_false] at hx
  rcases hx with rfl | rfl <;> rfl⟩
theorem okNu3 (a b : Int) (l : List V) : okE 3 (.agg [I a, I b, .arr l .no]) = True := eq_true ⟨rfl, fun x hx => by
  simp only [V.cl, List.mem_cons, List.not_mem_nil, or_false] at hx
  rcases hx with rfl | rfl | rfl <;> rfl⟩
theorem okArr (l : List V) : okE 1 (.arr l .no) = True := eq_true ⟨rfl, fun x hx => by
  simp only [V.cl, List.mem_cons, List.not_mem_nil, or_false] at hx
  subst hx; rfl⟩
theorem bs1p (a b c d : Int) (z : V) (K : V → Prop) : aBS 4 1 z [(0, .agg [I a, I b, I c, I d])] K = K (.arr [.agg [I a, I b, I c, I d]] .full) := by simp [aBS, aPs, setP, okPi4]
theorem bs1f (a b c : Int) (d : ByteArray) (z : V) (K : V → Prop) : aBS 4 1 z [(0, .agg [I a, I b, I c, T d])] K = K (.arr [.agg [I a, I b, I c, T d]] .full) := by simp [aBS, aPs, setP, okFo4]
theorem bs2f (a b c : Int) (d : ByteArray) (a' b' c' : Int) (d' : ByteArray) (z : V) (K : V → Prop) : aBS 4 2 z [(0, .agg [I a, I b, I c, T d]), (1, .agg [I a', I b', I c', T d'])] K = K (.arr [.agg [I a, I b, I c, T d], .agg [I a', I b', I c', T d']] .full) := by simp [aBS, aPs, setP, okFo4]
theorem bs3p (a b c d a' b' c' d' a2 b2 c2 d2 : Int) (z : V) (K : V → Prop) : aBS 4 3 z [(0, .agg [I a, I b, I c, I d]), (1, .agg [I a', I b', I c', I d']), (2, .agg [I a2, I b2, I c2, I d2])] K = K (.arr [.agg [I a, I b, I c, I d], .agg [I a', I b', I c', I d'], .agg [I a2, I b2, I c2, I d2]] .full) := by simp [aBS, aPs, setP, okPi4]
theorem bs4p (a b c d a' b' c' d' a2 b2 c2 d2 a3 b3 c3 d3 : Int) (z : V) (K : V → Prop) : aBS 4 4 z [(0, .agg [I a, I b, I c, I d]), (1, .agg [I a', I b', I c', I d']), (2, .agg [I a2, I b2, I c2, I d2]), (3, .agg [I a3, I b3, I c3, I d3])] K = K (.arr [.agg [I a, I b, I c, I d], .agg [I a', I b', I c', I d'], .agg [I a2, I b2, I c2, I d2], .agg [I a3, I b3, I c3, I d3]] .full) := by simp [aBS, aPs, setP, okPi4]
theorem bs1t (a : Int) (l : List V) (z : V) (K : V → Prop) : aBS 2 1 z [(0, .agg [I a, .arr l .no])] K = K (.arr [.agg [I a, .arr l .no]] .full) := by simp [aBS, aPs, setP, okTe2]
theorem bs2t (a b : Int) (l l' : List V) (z : V) (K : V → Prop) : aBS 2 2 z [(0, .agg [I a, .arr l .no]), (1, .agg [I b, .arr l' .no])] K = K (.arr [.agg [I a, .arr l .no], .agg [I b, .arr l' .no]] .full) := by simp [aBS, aPs, setP, okTe2]
theorem bs1n (a b : Int) (l : List V) (z : V) (K : V → Prop) : aBS 3 1 z [(0, .agg [I a, I b, .arr l .no])] K = K (.arr [.agg [I a, I b, .arr l .no]] .full) := by simp [aBS, aPs, setP, okNu3]
theorem bs1a (l : List V) (z : V) (K : V → Prop) : aBS 1 1 z [(0, .arr l .no)] K = K (.arr [.arr l .no] .full) := by simp [aBS, aPs, setP, okArr]
theorem appTe (l : List Te) (xs : List V) (ts : List Te) (h : xs = ts.map teV) (f g : Fl) (K : V → Prop) : aApp 2 32 (.arr (l.map teV) f) (.arr xs g) K = (f.ap = true ∧ (l.length + ts.length) * 32 ≤ 140737488355328 ∧ K (.arr ((l ++ ts).map teV) .own)) := by
  subst h
  exact e_appE (K := K) teV (fun _ => rfl) 32 l ts f g
theorem appNu (l : List Nu) (xs : List V) (ts : List Nu) (h : xs = ts.map nuV) (f g : Fl) (K : V → Prop) : aApp 3 40 (.arr (l.map nuV) f) (.arr xs g) K = (f.ap = true ∧ (l.length + ts.length) * 40 ≤ 140737488355328 ∧ K (.arr ((l ++ ts).map nuV) .own)) := by
  subst h
  exact e_appE (K := K) nuV (fun _ => rfl) 40 l ts f g
theorem c41 (H : Hp) : Ret Try.prog 41 [] H (syV enS) H := by
  refine mk41  rfl (Nat.le_refl _) (.inl rfl) ?_
  simp only [vc41, real]
  repeat (first | (with_reducible first | refine Ju.go ?_ | (refine Hd.go ?_; intro K Q hK hQ; simp only [e_bx, okE_agg, lv_cons, List.length_nil, Nat.zero_add, Nat.reduceAdd, all_c, ck_I, ck_arr, all_n, Bool.and_self, and_true, cl_agg, true_and, bsW, e_bd1, okE_I, Nat.reduceLeDiff, cl_imm, spl_0, spl_n, spl_s, e_bd0, nod_agg, List.map_cons, nodL_imm, List.map_nil, bs1p, noV_full, nod_arr, nd_no, okE_arr, cl_arr, hp_len, hp_len_cons, hp_assoc, hp_cons, hp_nil, nod_ptr, e_sc1, stV_agg, nodL_arr, nd_full]; subst hK hQ) | refine Jr.go ?_) | refine sd ?_)
  refine loop_of (fun i : Nat => i ≤ 12) (fun i => [.ptr H.length 0, .arr (enW.map tb) .no, .ptr (H.length + 1) 0, .arr (((List.range (min i 10)).map enN).map nuV) (oF (min i 10)), I i]) (fun i => H ++ [.cells [I 0, I 0, I 0, I 0, .arr [] .full, .arr [] .full, .arr [] .full], .cells [I 999, I 1, I 1, I 2, .arr (((enW.take i).map enT).map teV) (oF i), .arr [plV enP] .no, .arr [] .full]]) (fun i => 12 - i) 0 (Nat.zero_le _) rfl rfl ?_
  intro i hi
  have eL : enW.length = 12 := rfl
  have t0 : ((12 : Nat) : Int) = 12 := rfl
  repeat (first | (with_reducible first | refine Ju.go ?_ | (refine Hd.go ?_; intro K Q hK hQ; simp only [List.getD_cons_succ, List.getD_cons_zero, nod_arr, nd_no, e_lenA, List.length_map, eL, t0, nod_imm, Try.underlying3, e_lss, e_cond, decide_eq_true_eq]; subst hK hQ) | refine Jr.go ?_) | refine sd ?_)
  by_cases hlt : i < 12
  · have d : (i : Int) < 12 := by omega
    have tk := take_snocA enW default (i := i) (by rw [eL]; exact hlt)
    have tl : ((enW.take i).map enT).length = i := by rw [List.length_map, List.length_take, eL]; omega
    repeat (first | (with_reducible first | refine Ju.go ?_ | (refine Hd.go ?_; intro K Q hK hQ; simp only [d, if_true, List.getD_cons_succ, List.getD_cons_zero, nod_ptr, e_fa, Nat.zero_add, e_lM1, Nat.reduceAdd, lv_cons, List.length_nil, Nat.reduceLeDiff, nodL_arr, vs_s, vs_0, true_and, nod_arr, nd_no, nod_imm, ix_tb, eL, t0, Int.toNat_natCast, nod_cptr, e_ldc, Int.reduceNeg, e_bd1, okE_I, cl_imm, spl_0, spl_n, spl_s, okE_str, e_bd0, nod_agg, List.map_cons, nodL_imm, List.map_nil]; subst hK hQ) | refine Jr.go ?_) | refine sd ?_)
    generalize enW.getD i default = x at *
    have ap1 : ∀ K, aApp 2 32 (.arr (((enW.take i).map enT).map teV) (oF i)) (.arr [.agg [I 0, .arr [.agg [I (-1), I (-1), I (-1), T x]] .no]] .no) K = ((oF i).ap = true ∧ (((enW.take i).map enT).length + 1) * 32 ≤ 140737488355328 ∧ K (.arr (((enW.take i).map enT ++ [enT x]).map teV) .own)) := fun K => appTe _ _ [enT x] rfl _ _ K
    have ap2 : ∀ K, aApp 3 40 (.arr (((List.range (min i 10)).map enN).map nuV) (oF (min i 10))) (.arr [.agg [I i, I 0, .arr [.agg [I 1, I i, I 0, I 0]] .no]] .no) K = ((oF (min i 10)).ap = true ∧ (((List.range (min i 10)).map enN).length + 1) * 40 ≤ 140737488355328 ∧ K (.arr (((List.range (min i 10)).map enN ++ [enN i]).map nuV) .own)) := fun K => appNu _ _ [enN i] rfl _ _ K
    have nl : ((List.range (min i 10)).map enN).length = min i 10 := by simp
    have m10 : min i 10 ≤ 10 := Nat.min_le_right _ _
    repeat (first | (with_reducible first | refine Ju.go ?_ | (refine Hd.go ?_; intro K Q hK hQ; simp only [Int.reduceNeg, bs1f, noV_full, nod_arr, nd_no, e_bd1, okE_arr, Nat.reduceAdd, lv_cons, List.length_nil, Nat.zero_add, Nat.reduceLeDiff, cl_arr, spl_s, spl_0, spl_n, e_bd0, true_and, nod_agg, List.map_cons, nodL_imm, nodL_arr, List.map_nil, bs1t, ap1, oF_ap, tl, List.getD_cons_succ, List.getD_cons_zero, nod_ptr, e_fa, e_sc1, stV_arr, nod_imm, Try.underlying3, e_lss, e_cond, decide_eq_true_eq]; subst hK hQ) | refine Jr.go ?_) | refine sd ?_)
    have et : (enW.take (i + 1)).map enT = (enW.take i).map enT ++ [enT x] := by rw [tk, List.map_append]; rfl
    by_cases h10 : i < 10
    · have d10 : (i : Int) < 10 := by omega
      have em : min (i + 1) 10 = i + 1 := by omega
      have em0 : min i 10 = i := by omega
      have en : (List.range (i + 1)).map enN = (List.range (min i 10)).map enN ++ [enN i] := by rw [em0, List.range_succ, List.map_append]; rfl
      repeat (first | (with_reducible first | refine Ju.go ?_ | (refine Hd.go ?_; intro K Q hK hQ; simp only [d10, if_true, List.getD_cons_succ, List.getD_cons_zero, nod_imm, e_bd1, okE_I, Nat.zero_add, lv_cons, List.length_nil, Nat.reduceAdd, Nat.reduceLeDiff, cl_imm, spl_0, spl_n, spl_s, e_bd0, true_and, nod_agg, List.map_cons, nodL_imm, List.map_nil, bs1p, noV_full, nod_arr, nd_no, okE_arr, cl_arr, own0_imm, nodL_arr, bs1n, ap2, oF_ap, nl, Try.underlying3, e_add]; subst hK hQ) | refine Jr.go ?_) | refine sd ?_)
      refine ⟨i + 1, by omega, ?_, ?_, by omega⟩
      · rw [em, en]; rfl
      · rw [et]; rfl
    · have d10 : ¬ (i : Int) < 10 := by omega
      have em : min (i + 1) 10 = min i 10 := by omega
      repeat (first | (with_reducible first | refine Ju.go ?_ | (refine Hd.go ?_; intro K Q hK hQ; simp only [d10, if_false, List.getD_cons_zero, List.getD_cons_succ, nod_imm, Try.underlying3, e_add]; subst hK hQ) | refine Jr.go ?_) | refine sd ?_)
      refine ⟨i + 1, by omega, ?_, ?_, by omega⟩
      · rw [em]; rfl
      · rw [et]; rfl
  · have d : ¬ (i : Int) < 12 := by omega
    have ap1 : ∀ K, aApp 2 32 (.arr (((enW.take i).map enT).map teV) (oF i)) (.arr [.agg [I 0, .arr [.agg [I (-1), I (-1), I 1, T ⟨#[104, 117, 110, 100, 114, 101, 100]⟩], .agg [I (-1), I (-1), I (-1), T ⟨#[104, 117, 110, 100, 114, 101, 100, 115]⟩]] .no], .agg [I 0, .arr [.agg [I (-1), I (-1), I (-1), T ⟨#[97, 110, 100]⟩]] .no]] .no) K = ((oF i).ap = true ∧ (((enW.take i).map enT).length + 2) * 32 ≤ 140737488355328 ∧ K (.arr (((enW.take i).map enT ++ [enH, enA]).map teV) .own)) := fun K => appTe _ _ [enH, enA] rfl _ _ K
    have ap2 : ∀ f K, aApp 3 40 (.arr (((List.range (min i 10)).map enN).map nuV) f) (.arr [.agg [I 10, I 10, .arr [.agg [I 3, I 0, I 0, I 0], .agg [I 1, I 11, I 0, I 0], .agg [I 4, I 0, I 0, I 0]] .no]] .no) K = (f.ap = true ∧ (((List.range (min i 10)).map enN).length + 1) * 40 ≤ 140737488355328 ∧ K (.arr (((List.range (min i 10)).map enN ++ [enX]).map nuV) .own)) := fun f K => appNu _ _ [enX] rfl _ _ K
    have ap3 : ∀ f K, aApp 3 40 (.arr (((List.range (min i 10)).map enN ++ [enX]).map nuV) f) (.arr [.agg [I 100, I 100, .arr [.agg [I 3, I 0, I 0, I 0], .agg [I 2, I 12, I 0, I 0], .agg [I 5, I 13, I 0, I 10], .agg [I 4, I 0, I 0, I 0]] .no]] .no) K = (f.ap = true ∧ (((List.range (min i 10)).map enN ++ [enX]).length + 1) * 40 ≤ 140737488355328 ∧ K (.arr (((List.range (min i 10)).map enN ++ [enX] ++ [enC]).map nuV) .own)) := fun f K => appNu _ _ [enC] rfl _ _ K
    have tl : ((enW.take i).map enT).length ≤ 12 := by rw [List.length_map, List.length_take, eL]; omega
    have nl : ((List.range (min i 10)).map enN).length ≤ 10 := by simp; omega
    have tl2 : (enW.take i).length ≤ 12 := by rw [List.length_take, eL]; omega
    have nl3 : (List.range (min i 10)).length ≤ 10 := by simp; omega
    have nl2 : ((List.range (min i 10)).map enN ++ [enX]).length ≤ 11 := by rw [List.length_append]; simp; omega
    repeat (first | (with_reducible first | refine Ju.go ?_ | (refine Hd.go ?_; intro K Q hK hQ; simp only [d, if_false, List.getD_cons_succ, List.getD_cons_zero, nod_ptr, e_fa, Nat.zero_add, e_lM1, Nat.reduceAdd, lv_cons, List.length_nil, Nat.reduceLeDiff, nodL_arr, vs_s, vs_0, true_and, Int.reduceNeg, e_bd1, okE_I, cl_imm, spl_0, spl_n, spl_s, okE_str, e_bd0, nod_agg, List.map_cons, nodL_imm, List.map_nil, bs2f, noV_full, nod_arr, nd_no, okE_arr, cl_arr, bs1f, bs2t, ap1, oF_ap, List.length_map, e_sc1, stV_arr]; subst hK hQ) | refine Jr.go ?_) | refine sd ?_)
    repeat (first | (with_reducible first | refine Ju.go ?_ | (refine Hd.go ?_; intro K Q hK hQ; simp only [bs3p, noV_full, nod_arr, nd_no, e_bd1, okE_I, Nat.zero_add, lv_cons, List.length_nil, Nat.reduceAdd, Nat.reduceLeDiff, cl_imm, spl_0, spl_n, spl_s, okE_arr, cl_arr, e_bd0, true_and, nod_agg, List.map_cons, nodL_imm, nodL_arr, List.map_nil, bs1n, List.getD_cons_succ, List.getD_cons_zero, ap2, oF_ap, List.length_map, bs4p, ap3, ap_own, nd_own, bs1a, nod_ptr, e_fa, e_sc1, stV_arr, e_lA1, dr_0, tk_s, tk_0, e_sc0, stV_agg, okE_agg, all_c, ck_I, ck_arr, all_n, Bool.and_self, and_true, cl_agg, e_rA0]; subst hK hQ) | refine Jr.go ?_) | refine sd ?_)
    obtain rfl : i = 12 := by omega
    exact end1G (.keep (syV enS) (bel_sy _ enS))
end Go.Proofs.Ytgodfjbmblghnaa


set_option linter.unusedVariables false
set_option linter.unusedSimpArgs false
set_option linter.unnecessarySimpa false
set_option maxRecDepth 20000
set_option maxHeartbeats 2000000
namespace Go.Proofs.Ytgodfjbmblghnaa
open Go Go.Ab Go.Proofs
attribute [local congr] g_bin g_nilS g_nilP g_un g_ext g_bx g_fa g_ld g_st g_ix g_ixA g_slc g_mk g_bs g_bd g_nc g_cv g_len g_lenT g_app g_appB g_cpy g_mm g_call g_callG g_calm g_calmG g_range g_res g_pick g_cond g_loop g_Jv g_eqS g_eqP g_fd g_ixT g_ta g_lkp g_upd g_mkM g_appS g_inv g_callE g_callEG g_invE g_zr g_wr
theorem okT_eq (x : ByteArray) : okT x = (inB x.data.toList.length 1 30 && (x.data.toList.map fun b => ((b.toNat : Nat) : Int)).all (fun n => !badB n)) := by
  unfold okT bys
  rw [ByteArray.toList_eq]
  rfl
theorem okFo_eq (s : Sy) (f : Fo) : okFo s f = (inB f.g (-1) (s.gen - 1) && inB f.k (-1) (s.cas - 1) && inB f.c (-1) (s.cls - 1) && (inB f.t.data.toList.length 1 30 && (f.t.data.toList.map fun b => ((b.toNat : Nat) : Int)).all (fun n => !badB n))) := by
  unfold okFo; rw [okT_eq]
theorem enOk : okSy enS = true := by
  have h1 : enS.te.all (okTe enS) = true := by
    have : okTe enS = fun t => inB t.g 0 (enS.gen - 1) && decide ((t.f.length : Int) ≤ 60) && t.f.all (fun f => inB f.g (-1) (enS.gen - 1) && inB f.k (-1) (enS.cas - 1) && inB f.c (-1) (enS.cls - 1) && (inB f.t.data.toList.length 1 30 && (f.t.data.toList.map fun b => ((b.toNat : Nat) : Int)).all (fun n => !badB n))) := by
      funext t
      unfold okTe
      congr 1
      congr 1
      funext f
      exact okFo_eq _ _
    rw [this]
    decide +kernel
  unfold okSy
  rw [h1]
  decide +kernel
theorem enSm : Sm enS := by
  refine ⟨by decide +kernel, by decide +kernel, by decide +kernel, ?_, ?_⟩
  · have : enS.te.all (fun t => decide (t.f.length ≤ 9223372036854775807) && t.f.all fun f => decide (f.t.size ≤ 9223372036854775807)) = true := by decide +kernel
    intro t ht
    have h := List.all_eq_true.1 this t ht
    simp only [Bool.and_eq_true, decide_eq_true_eq] at h
    exact ⟨h.1, fun f hf => of_decide_eq_true (List.all_eq_true.1 h.2 f hf)⟩
  · have : enS.se.all (fun l => decide (l.length ≤ 9223372036854775807) && l.all fun r => decide (r.p.length ≤ 9223372036854775807)) = true := by decide +kernel
    intro t ht
    have h := List.all_eq_true.1 this t ht
    simp only [Bool.and_eq_true, decide_eq_true_eq] at h
    exact ⟨h.1, fun f hf => of_decide_eq_true (List.all_eq_true.1 h.2 f hf)⟩
theorem enAsk {n : Int} (h0 : 0 ≤ n) (h1 : n ≤ 999) : okAsk enS n 0 0 0 = true := by
  unfold okAsk
  rw [enOk]
  have : inB n 0 enS.top = true := inB_iff.2 ⟨h0, h1⟩
  rw [this]
  decide +kernel
theorem en242 : (saW enS 242 0 0 0).all gdW = true ∧ (saW enS 242 0 0 0).map Sd.x = [⟨#[116, 119, 111]⟩, ⟨#[104, 117, 110, 100, 114, 101, 100, 115]⟩, ⟨#[102, 111, 117, 114]⟩, ⟨#[116, 121]⟩, ⟨#[116, 119, 111]⟩] := by decide +kernel
theorem en105 : (saW enS 105 0 0 0).all gdW = true ∧ (saW enS 105 0 0 0).map Sd.x = [⟨#[111, 110, 101]⟩, ⟨#[104, 117, 110, 100, 114, 101, 100]⟩, ⟨#[97, 110, 100]⟩, ⟨#[102, 105, 118, 101]⟩] := by decide +kernel
theorem en30 : (saW enS 30 0 0 0).all gdW = true ∧ saW enS 30 0 0 0 = [⟨⟨#[116, 104, 114, 101, 101]⟩, 3, 0, 3, 0, 1⟩, ⟨⟨#[116, 121]⟩, 30, 0, 10, 1, 0⟩] := ⟨by decide +kernel, by rfl⟩
theorem enCls : clsOf enS.pl 1000001 = 1 := by decide +kernel
theorem enRd : rdL enS 99 0 0 0 [⟨#[116, 104, 114, 101, 101]⟩, ⟨#[116, 121]⟩] = [30] := by decide +kernel
end Go.Proofs.Ytgodfjbmblghnaa


set_option linter.unusedVariables false
set_option linter.unusedSimpArgs false
set_option linter.unnecessarySimpa false
set_option maxRecDepth 20000
set_option maxHeartbeats 2000000
namespace Go.Proofs.Ytgodfjbmblghnaa
open Go Go.Ab Go.Proofs
attribute [local congr] g_bin g_nilS g_nilP g_un g_ext g_bx g_fa g_ld g_st g_ix g_ixA g_slc g_mk g_bs g_bd g_nc g_cv g_len g_lenT g_app g_appB g_cpy g_mm g_call g_callG g_calm g_calmG g_range g_res g_pick g_cond g_loop g_Jv g_eqS g_eqP g_fd g_ixT g_ta g_lkp g_upd g_mkM g_appS g_inv g_callE g_callEG g_invE g_zr g_wr
theorem sp_of {s : Sy} {n : Int} {l : List ByteArray} (hok : okAsk s n 0 0 0 = true) (h1 : (saW s n 0 0 0).all gdW = true) (h2 : (saW s n 0 0 0).map Sd.x = l) : spE s n 0 0 0 = 0 ∧ (spL s n 0 0 0).map tx = l.map tb := by
  unfold spE spL trW
  rw [if_pos hok, if_pos hok, if_pos h1, if_pos h1]
  exact ⟨rfl, by rw [tx_tb, h2]⟩
theorem bs2T (a b : ByteArray) (z : V) (K : V → Prop) : aBS 1 2 z [(0, T a), (1, T b)] K = K (.arr [T a, T b] .full) := by
  have h : ∀ x, (okE 1 (T x)) = True := fun x => eq_true (okE_imm _ rfl)
  simp [aBS, aPs, setP, h]
theorem bs4T (a b c d : ByteArray) (z : V) (K : V → Prop) : aBS 1 4 z [(0, T a), (1, T b), (2, T c), (3, T d)] K = K (.arr [T a, T b, T c, T d] .full) := by
  have h : ∀ x, (okE 1 (T x)) = True := fun x => eq_true (okE_imm _ rfl)
  simp [aBS, aPs, setP, h]
theorem bs5T (a b c d e : ByteArray) (z : V) (K : V → Prop) : aBS 1 5 z [(0, T a), (1, T b), (2, T c), (3, T d), (4, T e)] K = K (.arr [T a, T b, T c, T d, T e] .full) := by
  have h : ∀ x, (okE 1 (T x)) = True := fun x => eq_true (okE_imm _ rfl)
  simp [aBS, aPs, setP, h]
theorem lv50 : lvT Try.prog 10000 50 = some [.str, .int, .int, .int, .int, .int] := by kernel_rfl
theorem gd50 : Try.prog.eqGuardType Try.prog.depth 50 = false := by kernel_rfl
theorem lfS (w : Sd) : lfL [.str, .int, .int, .int, .int, .int] [T w.x, I w.n, I w.t, I w.r, I w.p, I w.d] [T w.x, I w.n, I w.t, I w.r, I w.p, I w.d] = some true := by
  simp [lfL, lfE]
theorem eq50 {K : V → Prop} (w : Sd) (h : K (B true)) : aEqS Try.prog 50 .eql (sdV w) (sdV w) K := ⟨_, _, lv50, lfS w, gd50, h⟩
theorem noVints (l : List Int) : noV (ints l .full) = ints l .no := rfl
theorem c15 (H : Hp) : Ret Try.prog 15 [] H (B true) H := by
  obtain ⟨e1, l1⟩ := sp_of (enAsk (n := 242) (by decide) (by decide)) en242.1 en242.2
  obtain ⟨e2, l2⟩ := sp_of (enAsk (n := 105) (by decide) (by decide)) en105.1 en105.2
  have e3 : spE enS 30 0 0 0 = 0 := by unfold spE; rw [if_pos (enAsk (by decide) (by decide)), if_pos en30.1]
  have l3 : spL enS 30 0 0 0 = [⟨⟨#[116, 104, 114, 101, 101]⟩, 3, 0, 3, 0, 1⟩, ⟨⟨#[116, 121]⟩, 30, 0, 10, 1, 0⟩] := by unfold spL trW; rw [if_pos (enAsk (by decide) (by decide)), if_pos en30.1]; exact en30.2
  have hsc : scE [enS] 99 0 0 0 = 0 := by
    unfold scE
    simp only [List.all_cons, List.all_nil, Bool.and_true]
    rw [enAsk (by decide) (by decide)]; rfl
  have e4 : rdE enS 99 0 0 0 [⟨#[116, 104, 114, 101, 101]⟩, ⟨#[116, 121]⟩] = 0 := by unfold rdE; rw [if_neg (fun h => h hsc), enRd]; rfl
  have l4 : rdR enS 99 0 0 0 [⟨#[116, 104, 114, 101, 101]⟩, ⟨#[116, 121]⟩] = [30] := by unfold rdR; rw [if_neg (fun h => h hsc), enRd]
  have c1 := c16 enS 1000001
  have hc : okSy enS = true ∧ (0 : Int) ≤ 1000001 := ⟨enOk, by decide⟩
  rw [if_pos hc, if_pos hc, enCls] at c1
  refine mk15  rfl (Nat.le_refl _) (.inl rfl) ?_
  simp only [vc15, real]
  repeat (first | (with_reducible first | refine Ju.go ?_ | (refine Hd.go ?_; intro K Q hK hQ; simp only [Try.underlying3, Try.underlying4, Try.underlying5, Try.underlying9, Try.underlying29, Try.underlying57, Try.underlying55, j_one, j_side, j_tl, j_fl, nod_nod, nod_imm, nod_ints, nd_no, nd_own, nd_full, nd_fO, oF_ap, oF_succ, nod_sl, nod_ptr, nod_cptr, nod_fn, nod_junk, nodL_imm, nod_agg, nod_tup, nod2_imm, nod2_agg, cl_imm, cl_ints, cl_agg, e_add, e_sub, e_mul, e_quo, e_rem, e_eql, e_neq, e_lss, e_leq, e_gtr, e_geq, e_beq, e_bne, e_neg, e_not, e_pick, e_cond, e_gT, e_gF, e_len, e_lenA, e_lenS, e_ix, e_ixS, e_ldc, e_ldci, e_fa, rep_cl, rep_I, e_bx, okE_I, okE_B, okE_E8, okE_ints, stV_imm, stV_ints, j_and', j_or', List.getD_cons_zero, List.getD_cons_succ, List.map_cons, List.map_nil, decide_eq_true_eq, Int.toNat_natCast, Nat.mul_one, Nat.zero_add, true_and, and_true, List.length_map, Bool.not_eq_true', decide_eq_false_iff_not, nod_lists, e_lenL, e_ixL, okE_lists, bs1, bs1L, bs2L, e_app, e_appL, e_app0, e_app0L, e_slcLo, e_slcHi, e_slcLH, e_slcHH, e_slcLHH, e_callG, e_callY, e_calmG, e_slS0, e_slSLo, e_slSHi, e_slSLH, e_slSHH, e_slSLHH, e_max2, e_min2, e_max3, e_x20, e_x21, e_x30, e_x31, e_x32, nod2_ints, nod2_lists, rep_fl, bs0, e_nilE, if_true, if_false, cond_true, cond_false, decide_true, decide_false, eq_self, Bool.false_eq_true, false_implies, true_implies, ap_own, ap_full, e_slcLoL, e_slcHiL, e_slcLHL, hp_assoc, hp_cons, hp_nil, hp_len, hp_len_cons, hp_len_nil, lv_cons, lv_nil, vs_0, vs_s, spl_s, spl_0, spl_n, dr_s, dr_0, tk_s, tk_0, e_bxI, e_fac, e_facA, e_ldcA, e_ldcL, e_ldcF, okE_agg, ck_I, ck_B, ck_ints, ck_lists, ck_arr, ck_ptr, ck_cptr, ck_fn, all_c, all_n, stV_agg, stV_lists, stV_arr, stV_ptr, stV_cptr, stV_fn, nodL_ints, nodL_lists, nodL_ptr, nodL_cptr, nodL_fn, nodL_arr0, cl_arr, cl_ptr, cl_cptr, cl_fn, cl_lists, okE_arr, okE_fn, okE_ptr, okE_cptr, e_bd0, e_bd1, e_wr, Nat.reduceAdd, Nat.reduceLeDiff, Nat.reduceEqDiff, Nat.add_zero, Bool.and_self, Bool.true_and, Bool.and_true, e_lc0, e_lA0, e_lM0, e_sc0, e_rc0, e_rA0, e_lI0, e_sI0, e_cI0, e_lc1, e_lA1, e_lM1, e_sc1, e_rc1, e_rA1, e_lI1, e_sI1, e_cI1, e_lc2, e_lA2, e_lM2, e_sc2, e_rc2, e_rA2, e_lI2, e_sI2, e_cI2, e_lc3, e_lA3, e_lM3, e_sc3, e_rc3, e_rA3, e_lI3, e_sI3, e_cI3, e_lc4, e_lA4, e_lM4, e_sc4, e_rc4, e_rA4, e_lI4, e_sI4, e_cI4, e_lc5, e_lA5, e_lM5, e_sc5, e_rc5, e_rA5, e_lI5, e_sI5, e_cI5, own0_arr, own0_ints, own0_lists, own0_imm, own0_ptr, own0_cptr, own0_fn, own0_agg, e_appB, e_appB0, ck_sl, own0_sl, stV_sl, nodL_sl, cl_sl, okE_sl, e_mkM, e_mkI, e_mkIm, e_callB, nod_bfn, nod_ifc, nod_map, nodL_ifc, nodL_bfn, nodL_map, cl_ifc, cl_bfn, ck_ifc, ck_bfn, ck_map, stV_ifc, okE_ifc, okE_bfn, nod_arr, nodL_arr, e_addU, e_mulU, e_shrK, e_shlK, e_andK, e_cv64, e_cv32, e_callEG, e_callEY, e_callEB, e_zr, e_nilSl, e_ncP, e_ncC, e_npnP, e_npeP, e_npnC, e_npeC, e_npnN, e_npeN, e_ixAP, e_ldcP, e_ldcS, e_ldcV, e_ldcT, okE_nilP, ck_nilP, okE_nilI, ck_nilI, okE_str, ck_str, e_tlen, e_tix, e_teq, e_tne, e_tadd, e_tb, e_u8lss, e_u8gtr, noV_full, nod_arr, List.length_map, reduceIte, Int.reduceEq, Int.reduceNeg, ne_eq, not_true_eq_false, not_false_eq_true, Bool.not_true, Bool.not_false, Bool.true_or, Bool.or_true, Bool.false_or, Bool.or_false, Bool.and_true, Bool.and_false, Bool.false_and, Bool.not_not, Bool.or_self, List.length_nil, Int.ofNat_zero, Int.cast_ofNat_Int, Int.natCast_zero, beq_self_eq_true, Bool.true_eq_false]; subst hK hQ) | refine Jr.go ?_) | refine sd ?_)
  refine call_of (c41 _) ?_
  repeat (first | (with_reducible first | refine Ju.go ?_ | (refine Hd.go ?_; intro K Q hK hQ; simp only [nod_agg, List.map_cons, nodL_imm, nodL_arr, nd_no, List.map_nil, e_bxI, okE_agg, lv_cons, List.length_nil, Nat.zero_add, Nat.reduceAdd, all_c, ck_I, ck_arr, all_n, Bool.and_self, and_true, true_and, nod_cptr, e_ldcA, e_bd1, okE_I, Nat.reduceLeDiff, cl_imm, spl_0, spl_n, e_bd0]; subst hK hQ) | refine Jr.go ?_) | refine sd ?_)
  refine call_of (c20 enS 242 0 0 0 _ enSm) ?_
  rw [e1, l1]
  repeat (first | (with_reducible first | refine Ju.go ?_ | (refine Hd.go ?_; intro K Q hK hQ; simp only [List.map_cons, List.map_nil, nod_tup, nod2_arr, nd_no, nod2_imm, e_x20, e_x21, List.getD_cons_zero, nod_cptr, e_ldcA, lv_cons, List.length_nil, Nat.zero_add, Nat.reduceAdd, true_and, e_bd1, okE_I, Nat.reduceLeDiff, cl_imm, spl_0, spl_n, e_bd0, nod_agg, nodL_imm, nodL_arr]; subst hK hQ) | refine Jr.go ?_) | refine sd ?_)
  refine call_of (c20 enS 105 0 0 0 _ enSm) ?_
  rw [e2, l2]
  repeat (first | (with_reducible first | refine Ju.go ?_ | (refine Hd.go ?_; intro K Q hK hQ; simp only [List.map_cons, List.map_nil, nod_tup, nod2_arr, nd_no, nod2_imm, e_x20, e_x21, List.getD_cons_zero, nod_cptr, e_ldcA, lv_cons, List.length_nil, Nat.zero_add, Nat.reduceAdd, true_and, nod_agg, nodL_imm, nodL_arr]; subst hK hQ) | refine Jr.go ?_) | refine sd ?_)
  refine call_of (c1 _ enSm) ?_
  repeat (first | (with_reducible first | refine Ju.go ?_ | (refine Hd.go ?_; intro K Q hK hQ; simp only [nod_tup, List.map_cons, nod2_imm, List.map_nil, e_x20, e_x21, List.getD_cons_zero, List.getD_cons_succ, nod_cptr, e_ldcA, lv_cons, List.length_nil, Nat.zero_add, Nat.reduceAdd, true_and, e_bd1, okE_I, Nat.reduceLeDiff, cl_imm, spl_0, spl_n, e_bd0, bs2T, nod_agg, nodL_imm, nodL_arr, nd_no, noV_full, nod_arr]; subst hK hQ) | refine Jr.go ?_) | refine sd ?_)
  refine call_of (c27 enS 99 0 0 0 [⟨#[116, 104, 114, 101, 101]⟩, ⟨#[116, 121]⟩] _ enSm) ?_
  rw [e4, l4]
  repeat (first | (with_reducible first | refine Ju.go ?_ | (refine Hd.go ?_; intro K Q hK hQ; simp only [nod_tup, List.map_cons, nod2_ints, nd_no, nod2_imm, List.map_nil, e_x20, e_x21, List.getD_cons_zero, nod_cptr, e_ldcA, lv_cons, List.length_nil, Nat.zero_add, Nat.reduceAdd, true_and, e_bd1, okE_I, Nat.reduceLeDiff, cl_imm, spl_0, spl_n, e_bd0, nod_agg, nodL_imm, nodL_arr]; subst hK hQ) | refine Jr.go ?_) | refine sd ?_)
  refine call_of (c21 enS 30 0 0 0 _ enSm) ?_
  rw [e3, l3]
  repeat (first | (with_reducible first | refine Ju.go ?_ | (refine Hd.go ?_; intro K Q hK hQ; simp only [nod_tup, List.map_cons, nod2_arr, List.map_nil, nd_no, nod2_imm, e_x20, e_x21, List.getD_cons_succ, List.getD_cons_zero, nod_imm, Try.underlying29, e_neq, decide_true, Bool.not_true, e_gF, cond_false, j_one, nod_arr, Try.underlying3, e_lenA, lv_cons, List.length_nil, Nat.zero_add, Nat.reduceAdd, Int.cast_ofNat_Int, e_cond, Bool.false_eq_true, if_false, bs5T, noV_full]; subst hK hQ) | refine Jr.go ?_) | refine sd ?_)
  refine call_of (c25 [⟨#[116, 119, 111]⟩, ⟨#[104, 117, 110, 100, 114, 101, 100, 115]⟩, ⟨#[102, 111, 117, 114]⟩, ⟨#[116, 121]⟩, ⟨#[116, 119, 111]⟩] [⟨#[116, 119, 111]⟩, ⟨#[104, 117, 110, 100, 114, 101, 100, 115]⟩, ⟨#[102, 111, 117, 114]⟩, ⟨#[116, 121]⟩, ⟨#[116, 119, 111]⟩] _ (by decide)) ?_
  repeat (first | (with_reducible first | refine Ju.go ?_ | (refine Hd.go ?_; intro K Q hK hQ; simp only [decide_true, nod_imm, List.getD_cons_succ, List.getD_cons_zero, nod_arr, nd_no, bs4T, noV_full, e_gT, cond_true]; subst hK hQ) | refine Jr.go ?_) | refine sd ?_)
  refine call_of (c25 [⟨#[111, 110, 101]⟩, ⟨#[104, 117, 110, 100, 114, 101, 100]⟩, ⟨#[97, 110, 100]⟩, ⟨#[102, 105, 118, 101]⟩] [⟨#[111, 110, 101]⟩, ⟨#[104, 117, 110, 100, 114, 101, 100]⟩, ⟨#[97, 110, 100]⟩, ⟨#[102, 105, 118, 101]⟩] _ (by decide)) ?_
  repeat (first | (with_reducible first | refine Ju.go ?_ | (refine Hd.go ?_; intro K Q hK hQ; simp only [decide_true, nod_imm, List.getD_cons_succ, List.getD_cons_zero, Try.underlying3, e_eql, e_gT, cond_true, j_one, nod_ints, nd_no, bs1, noVints]; subst hK hQ) | refine Jr.go ?_) | refine sd ?_)
  refine call_of (c29 [30] [30] _ (by decide)) ?_
  have ix0 : ∀ K, aIx 6 (.arr [sdV ⟨⟨#[116, 104, 114, 101, 101]⟩, 3, 0, 3, 0, 1⟩, sdV ⟨⟨#[116, 121]⟩, 30, 0, 10, 1, 0⟩] .no) (I 0) K = K (.cptr (sdV ⟨⟨#[116, 104, 114, 101, 101]⟩, 3, 0, 3, 0, 1⟩)) := fun K => (ix_sd [⟨⟨#[116, 104, 114, 101, 101]⟩, 3, 0, 3, 0, 1⟩, ⟨⟨#[116, 121]⟩, 30, 0, 10, 1, 0⟩] .no 0).trans (propext ⟨fun h => h.2.2, fun h => ⟨by decide, by decide, h⟩⟩)
  have ix1 : ∀ K, aIx 6 (.arr [sdV ⟨⟨#[116, 104, 114, 101, 101]⟩, 3, 0, 3, 0, 1⟩, sdV ⟨⟨#[116, 121]⟩, 30, 0, 10, 1, 0⟩] .no) (I 1) K = K (.cptr (sdV ⟨⟨#[116, 121]⟩, 30, 0, 10, 1, 0⟩)) := fun K => (ix_sd [⟨⟨#[116, 104, 114, 101, 101]⟩, 3, 0, 3, 0, 1⟩, ⟨⟨#[116, 121]⟩, 30, 0, 10, 1, 0⟩] .no 1).trans (propext ⟨fun h => h.2.2, fun h => ⟨by decide, by decide, h⟩⟩)
  repeat (first | (with_reducible first | refine Ju.go ?_ | (refine Hd.go ?_; intro K Q hK hQ; simp only [decide_true, nod_imm, List.getD_cons_succ, List.getD_cons_zero, nod_arr, nd_no, e_bd1, okE_str, Nat.zero_add, lv_cons, List.length_nil, Nat.reduceAdd, Nat.reduceLeDiff, cl_imm, spl_0, spl_n, okE_I, spl_s, e_bd0, nod_agg, List.map_cons, nodL_imm, List.map_nil, true_and, ix0, nod_cptr, e_ldcA, e_gT, cond_true]; subst hK hQ) | refine Jr.go ?_) | refine sd ?_)
  refine eq50 ⟨⟨#[116, 104, 114, 101, 101]⟩, 3, 0, 3, 0, 1⟩ ?_
  repeat (first | (with_reducible first | refine Ju.go ?_ | (refine Hd.go ?_; intro K Q hK hQ; simp only [nod_imm, List.getD_cons_succ, List.getD_cons_zero, nod_arr, nd_no, e_bd1, okE_str, Nat.zero_add, lv_cons, List.length_nil, Nat.reduceAdd, Nat.reduceLeDiff, cl_imm, spl_0, spl_n, okE_I, spl_s, e_bd0, nod_agg, List.map_cons, nodL_imm, List.map_nil, true_and, ix1, nod_cptr, e_ldcA, e_gT, cond_true]; subst hK hQ) | refine Jr.go ?_) | refine sd ?_)
  refine eq50 ⟨⟨#[116, 121]⟩, 30, 0, 10, 1, 0⟩ ?_
  repeat (first | (with_reducible first | refine Ju.go ?_ | (refine Hd.go ?_; intro K Q hK hQ; simp only [nod_imm]; subst hK hQ) | refine Jr.go ?_) | refine sd ?_)
  exact end1 (fzI _)
end Go.Proofs.Ytgodfjbmblghnaa


set_option linter.unusedVariables false
set_option linter.unusedSimpArgs false
set_option linter.unnecessarySimpa false
set_option maxRecDepth 20000
set_option maxHeartbeats 2000000
namespace Go.Proofs.Ytgodfjbmblghnaa
open Go Go.Ab Go.Proofs
attribute [local congr] g_bin g_nilS g_nilP g_un g_ext g_bx g_fa g_ld g_st g_ix g_ixA g_slc g_mk g_bs g_bd g_nc g_cv g_len g_lenT g_app g_appB g_cpy g_mm g_call g_callG g_calm g_calmG g_range g_res g_pick g_cond g_loop g_Jv g_eqS g_eqP g_fd g_ixT g_ta g_lkp g_upd g_mkM g_appS g_inv g_callE g_callEG g_invE g_zr g_wr
theorem c14 (s : Sy) (H : Hp) (sm : Sm s) : RetE Try.prog 14 [syV s] H (fun v H' => H' = H ∧ ∃ b, v = B b) := by
  have b1 := sm.te
  have b2 := sm.pl
  have b3 := sm.se
  refine mkE14 _ ?_
  simp only [vc14, real]
  repeat (first | (with_reducible first | refine Ju.go ?_ | (refine Hd.go ?_; intro K Q hK hQ; simp only [nod_agg, List.map_cons, nodL_imm, nodL_arr, nd_no, List.map_nil, e_bxI, okE_agg, lv_cons, List.length_nil, Nat.zero_add, Nat.reduceAdd, all_c, ck_I, ck_arr, all_n, Bool.and_self, and_true, true_and, nod_cptr, e_fac, Nat.reduceLeDiff, List.getD_cons_succ, List.getD_cons_zero, e_ldcV, nod_arr, e_lenA, List.length_map, nod_imm, Try.underlying3, e_gtr, e_gF, j_or', j_one, e_cond]; subst hK hQ) | refine Jr.go ?_) | refine sd ?_)
  by_cases hg : (decide (60 < (s.te.length : Int)) || decide (50 < (s.pl.length : Int)) || decide (10 < (s.se.length : Int))) = true
  · repeat (first | (with_reducible first | refine Ju.go ?_ | (refine Hd.go ?_; intro K Q hK hQ; simp only [hg, if_true]; subst hK hQ) | refine Jr.go ?_) | refine sd ?_)
    exact ⟨rfl, false, rfl⟩
  · repeat (first | (with_reducible first | refine Ju.go ?_ | (refine Hd.go ?_; intro K Q hK hQ; simp only [hg, Bool.false_eq_true, if_false]; subst hK hQ) | refine Jr.go ?_) | refine sd ?_)
    refine loop_of (fun z : Nat × Int => z.1 ≤ s.te.length) (fun z => [.cptr (syV s), I z.2, I z.1]) (fun _ => H) (fun z => s.te.length - z.1) (0, 0) (Nat.zero_le _) rfl rfl ?_
    intro ⟨i, n⟩ hi
    dsimp only at hi ⊢
    repeat (first | (with_reducible first | refine Ju.go ?_ | (refine Hd.go ?_; intro K Q hK hQ; simp only [List.getD_cons_zero, nod_cptr, e_fac, Nat.reduceAdd, lv_cons, List.length_nil, Nat.zero_add, Nat.reduceLeDiff, List.getD_cons_succ, true_and, e_ldcV, nod_arr, nd_no, e_lenA, List.length_map, nod_imm, Try.underlying3, e_lss, e_cond, decide_eq_true_eq]; subst hK hQ) | refine Jr.go ?_) | refine sd ?_)
    by_cases hlt : i < s.te.length
    · have d : (i : Int) < s.te.length := by omega
      have bf := (sm.fo _ (getD_memA s.te default hlt)).1
      repeat (first | (with_reducible first | refine Ju.go ?_ | (refine Hd.go ?_; intro K Q hK hQ; simp only [d, if_true, List.getD_cons_zero, nod_cptr, e_fac, Nat.reduceAdd, lv_cons, List.length_nil, Nat.zero_add, Nat.reduceLeDiff, List.getD_cons_succ, true_and, e_ldcV, nod_arr, nd_no, nod_imm, ix_te, Int.toNat_natCast, e_lenA, List.length_map, e_wr]; subst hK hQ) | refine Jr.go ?_) | refine sd ?_)
      generalize ht : s.te.getD i default = t at *
      generalize IntKind.i64.wrap (n + t.f.length) = n1
      refine loop_of (fun k : Nat => k ≤ t.f.length) (fun k => [.cptr (syV s), I n1, I i, I k]) (fun _ => H) (fun k => t.f.length - k) 0 (Nat.zero_le _) rfl rfl ?_
      intro k hk
      repeat (first | (with_reducible first | refine Ju.go ?_ | (refine Hd.go ?_; intro K Q hK hQ; simp only [List.getD_cons_zero, nod_cptr, e_fac, Nat.reduceAdd, lv_cons, List.length_nil, Nat.zero_add, Nat.reduceLeDiff, List.getD_cons_succ, true_and, e_ldcV, nod_arr, nd_no, nod_imm, ix_te, d, Int.toNat_natCast, ht, e_lenA, List.length_map, Try.underlying3, e_lss, e_cond, decide_eq_true_eq]; subst hK hQ) | refine Jr.go ?_) | refine sd ?_)
      by_cases hkt : k < t.f.length
      · have dk : (k : Int) < t.f.length := by omega
        repeat (first | (with_reducible first | refine Ju.go ?_ | (refine Hd.go ?_; intro K Q hK hQ; simp only [dk, if_true, List.getD_cons_zero, nod_cptr, e_fac, Nat.reduceAdd, lv_cons, List.length_nil, Nat.zero_add, Nat.reduceLeDiff, List.getD_cons_succ, true_and, e_ldcV, nod_arr, nd_no, nod_imm, ix_te, d, Int.toNat_natCast, ht, ix_fo, e_ldc, e_tlen, Try.underlying3, e_gtr, e_cond, decide_eq_true_eq]; subst hK hQ) | refine Jr.go ?_) | refine sd ?_)
        generalize t.f.getD k default = f at *
        by_cases h60 : 60 < (f.t.size : Int)
        · repeat (first | (with_reducible first | refine Ju.go ?_ | (refine Hd.go ?_; intro K Q hK hQ; simp only [h60, if_true]; subst hK hQ) | refine Jr.go ?_) | refine sd ?_)
          exact ⟨rfl, false, rfl⟩
        · repeat (first | (with_reducible first | refine Ju.go ?_ | (refine Hd.go ?_; intro K Q hK hQ; simp only [h60, if_false, decide_false, List.getD_cons_succ, List.getD_cons_zero, nod_imm, Try.underlying3, e_add]; subst hK hQ) | refine Jr.go ?_) | refine sd ?_)
          exact ⟨k + 1, by omega, rfl, rfl, by omega⟩
      · have dk : ¬ (k : Int) < t.f.length := by omega
        repeat (first | (with_reducible first | refine Ju.go ?_ | (refine Hd.go ?_; intro K Q hK hQ; simp only [dk, if_false, List.getD_cons_succ, List.getD_cons_zero, nod_imm, Try.underlying3, e_add]; subst hK hQ) | refine Jr.go ?_) | refine sd ?_)
        exact ⟨(i + 1, n1), by dsimp only; omega, rfl, rfl, by dsimp only; omega⟩
    · have d : ¬ (i : Int) < s.te.length := by omega
      repeat (first | (with_reducible first | refine Ju.go ?_ | (refine Hd.go ?_; intro K Q hK hQ; simp only [d, if_false]; subst hK hQ) | refine Jr.go ?_) | refine sd ?_)
      refine loop_of (fun z : Nat × Int => z.1 ≤ s.se.length) (fun z => [.cptr (syV s), I z.2, I z.1]) (fun _ => H) (fun z => s.se.length - z.1) (0, n) (Nat.zero_le _) rfl rfl ?_
      intro ⟨i, m⟩ hi2
      dsimp only at hi2 ⊢
      repeat (first | (with_reducible first | refine Ju.go ?_ | (refine Hd.go ?_; intro K Q hK hQ; simp only [List.getD_cons_zero, nod_cptr, e_fac, Nat.reduceAdd, lv_cons, List.length_nil, Nat.zero_add, Nat.reduceLeDiff, List.getD_cons_succ, true_and, e_ldcV, nod_arr, nd_no, e_lenA, List.length_map, nod_imm, Try.underlying3, e_lss, e_cond, decide_eq_true_eq]; subst hK hQ) | refine Jr.go ?_) | refine sd ?_)
      by_cases hlt2 : i < s.se.length
      · have d2 : (i : Int) < s.se.length := by omega
        have bl := (sm.nu _ (getD_memA s.se [] hlt2)).1
        repeat (first | (with_reducible first | refine Ju.go ?_ | (refine Hd.go ?_; intro K Q hK hQ; simp only [d2, if_true, List.getD_cons_zero, nod_cptr, e_fac, Nat.reduceAdd, lv_cons, List.length_nil, Nat.zero_add, Nat.reduceLeDiff, List.getD_cons_succ, true_and, e_ldcV, nod_arr, nd_no, nod_imm, ix_se, Int.toNat_natCast, e_lenA, List.length_map, e_wr]; subst hK hQ) | refine Jr.go ?_) | refine sd ?_)
        generalize hl : s.se.getD i [] = l at *
        generalize IntKind.i64.wrap (m + l.length) = m1
        refine loop_of (fun z : Nat × Int => z.1 ≤ l.length) (fun z => [.cptr (syV s), I z.2, I i, I z.1]) (fun _ => H) (fun z => l.length - z.1) (0, m1) (Nat.zero_le _) rfl rfl ?_
        intro ⟨k, q⟩ hk
        dsimp only at hk ⊢
        repeat (first | (with_reducible first | refine Ju.go ?_ | (refine Hd.go ?_; intro K Q hK hQ; simp only [List.getD_cons_zero, nod_cptr, e_fac, Nat.reduceAdd, lv_cons, List.length_nil, Nat.zero_add, Nat.reduceLeDiff, List.getD_cons_succ, true_and, e_ldcV, nod_arr, nd_no, nod_imm, ix_se, d2, Int.toNat_natCast, hl, e_lenA, List.length_map, Try.underlying3, e_lss, e_cond, decide_eq_true_eq]; subst hK hQ) | refine Jr.go ?_) | refine sd ?_)
        by_cases hkt : k < l.length
        · have dk : (k : Int) < l.length := by omega
          repeat (first | (with_reducible first | refine Ju.go ?_ | (refine Hd.go ?_; intro K Q hK hQ; simp only [dk, if_true, List.getD_cons_zero, nod_cptr, e_fac, Nat.reduceAdd, lv_cons, List.length_nil, Nat.zero_add, Nat.reduceLeDiff, List.getD_cons_succ, true_and, e_ldcV, nod_arr, nd_no, nod_imm, ix_se, d2, Int.toNat_natCast, hl, ix_nu, e_lenA, List.length_map, e_wr, Try.underlying3, e_add]; subst hK hQ) | refine Jr.go ?_) | refine sd ?_)
          exact ⟨(k + 1, _), by dsimp only; omega, rfl, rfl, by dsimp only; omega⟩
        · have dk : ¬ (k : Int) < l.length := by omega
          repeat (first | (with_reducible first | refine Ju.go ?_ | (refine Hd.go ?_; intro K Q hK hQ; simp only [dk, if_false, List.getD_cons_succ, List.getD_cons_zero, nod_imm, Try.underlying3, e_add]; subst hK hQ) | refine Jr.go ?_) | refine sd ?_)
          exact ⟨(i + 1, q), by dsimp only; omega, rfl, rfl, by dsimp only; omega⟩
      · have d2 : ¬ (i : Int) < s.se.length := by omega
        repeat (first | (with_reducible first | refine Ju.go ?_ | (refine Hd.go ?_; intro K Q hK hQ; simp only [d2, if_false, List.getD_cons_succ, List.getD_cons_zero, nod_imm, Try.underlying3, e_leq]; subst hK hQ) | refine Jr.go ?_) | refine sd ?_)
        exact ⟨rfl, _, rfl⟩
end Go.Proofs.Ytgodfjbmblghnaa


set_option linter.unusedVariables false
set_option linter.unusedSimpArgs false
set_option linter.unnecessarySimpa false
set_option maxRecDepth 20000
set_option maxHeartbeats 2000000
namespace Go.Proofs.Ytgodfjbmblghnaa
open Go Go.Ab Go.Proofs
attribute [local congr] g_bin g_nilS g_nilP g_un g_ext g_bx g_fa g_ld g_st g_ix g_ixA g_slc g_mk g_bs g_bd g_nc g_cv g_len g_lenT g_app g_appB g_cpy g_mm g_call g_callG g_calm g_calmG g_range g_res g_pick g_cond g_loop g_Jv g_eqS g_eqP g_fd g_ixT g_ta g_lkp g_upd g_mkM g_appS g_inv g_callE g_callEG g_invE g_zr g_wr
theorem argF_nd {args : List V} (hn : ∀ a, a ∈ args → a.Nd) (i : Nat) : (argF args i).Nd := by
  unfold argF
  rw [List.getD_eq_getElem?_getD]
  cases h : args[i]? with
  | none => rfl
  | some v => exact hn v (List.mem_of_getElem? h)
def sg0 (w : World) : Sg := ⟨0, fun _ => 0, fun rb => (cellsAt w rb).size⟩
theorem bridge {P : Program} {f : Nat} {args : List V} {ra : Array Value} {w : World} (h : Ret P f args [] (B true) []) (hl : args.length = ra.size) (hn : ∀ a, a ∈ args → a.Nd)
    (hr : ∀ i, Rel (sg0 w) w (argF args i) (ra.getD i undef)) : Calls P f ra w fun e w' => e = .returned (.bool true) ∧ Go.RowKit.Below w.heap.size w w' := by
  have no : ∀ (p : Go.Ab.Pl) (x : Value) (rb : Nat), ¬ OwnB (Go.Ab.pv (argF args) [] p) x rb := by
    intro p x rb ho
    cases p with
    | s i j => exact not_own_Nd (argF_nd hn i) ho
    | h b j => exact not_own_junk ho
  have st : St (sg0 w) w (argF args) ra [] :=
    { frame := hr
      hn := rfl
      heap := fun b blk hb => by simp at hb
      inj := fun b b' blk blk' hb => by simp at hb
      lt := fun b hb => absurd hb (Nat.not_lt_zero _)
      tip0 := fun b blk hb => by simp at hb
      tipz := fun rb hb => by
        show (cellsAt w rb).size = 0
        have : w.heap[rb]? = none := Array.getElem?_eq_none hb
        unfold cellsAt
        rw [this]
        rfl
      own1 := fun p rb ho => absurd ho (no _ _ _)
      own2 := fun p q rb ho => absurd ho (no _ _ _) }
  refine (h.2 (sg0 w) w ra hl st hn).mono fun e w' he => ?_
  obtain ⟨x, σ', rfl, s2, t⟩ := he
  refine ⟨?_, t.os, t.tape, t.output, t.size, fun k hk => (t.keep k hk ?_ ?_).1⟩
  · have := s2.frame 0
    have h2 : Rel σ' w' (B true) x := this
    cases h2
    rfl
  · rintro ⟨b, hb, -⟩
    exact Nat.not_lt_zero _ hb
  · rintro ⟨p, ho⟩
    exact no _ _ _ ho
theorem cells_lt {w : World} {rb off : Nat} {y : Value} (h : w.cell? ⟨rb, off, none⟩ = some y) : off < (sg0 w).tip rb := by
  show off < (cellsAt w rb).size
  unfold World.cell? at h
  unfold cellsAt
  split at h
  · rename_i c e fz hc
    rw [hc]
    simp only [Option.isSome_none, Bool.false_eq_true, if_false] at h
    exact (Array.getElem?_eq_some_iff.1 h).1
  · cases h
open Go.ChangeShapes Go.WideShapes Go.ChangeAt Go.RowKit
theorem in_int {H : Type} {enc : TypeId × Value → H} {P : Program} {W : World} {base : Nat} {t : TypeId} {v : Value} {d : DataW H} {p : List MemPlace} (ht : P.underlying t = some (.int .i64))
    (hv : Value.okWide P W .any base t v) (hA : DataW.Trod enc P W 0 (fun _ => true) true t v d p) : ∃ n : Int, Rel (sg0 W) W (I n) v ∧ (Lit.int .i64 n).wf = true := by
  obtain ⟨n, rfl, rfl, rfl, wf⟩ := open_int ht hv hA
  exact ⟨n, .imm _, wf⟩
def CR (W : World) (us : List V) (cs : List Value) : Prop := us.length = cs.length ∧ ∀ (i : Nat) (u : V) (c : Value), us[i]? = some u → cs[i]? = some c → Rel (sg0 W) W u c ∧ c.oneCell' = true
def Opens {H α : Type} (enc : TypeId × Value → H) (W : World) (t : TypeId) (f : α → V) : Prop := ∀ n cs y, DataW.trod enc Try.prog W 0 (fun _ => true) true n t cs = some y → ∃ x : α, CR W (f x).cl cs
theorem cr1 {W : World} {u : V} {c : Value} (h : Rel (sg0 W) W u c) (o : c.oneCell' = true) : CR W [u] [c] := by
  refine ⟨rfl, fun i u' c' hu hc => ?_⟩
  match i with
  | 0 => cases hu; cases hc; exact ⟨h, o⟩
  | i + 1 => simp at hu
theorem cr1' {W : World} {u : V} {c : Value} (h : CR W [u] [c]) : Rel (sg0 W) W u c ∧ c.oneCell' = true := h.2 0 u c rfl rfl
theorem cr_nil {W : World} : CR W [] [] := ⟨rfl, fun i u c h => by simp at h⟩
theorem cr_cons {W : World} {u : V} {us : List V} {c : Value} {cs : List Value} (h : CR W [u] [c]) (k : CR W us cs) : CR W (u :: us) (c :: cs) := by
  refine ⟨by simp [k.1], fun i u' c' hu hc => ?_⟩
  match i with
  | 0 => simp at hu hc; subst hu hc; exact cr1' h
  | i + 1 => simp at hu hc; exact k.2 i u' c' hu hc
theorem opens_int {H : Type} {enc : TypeId × Value → H} {W : World} {t : TypeId} (ht : Try.prog.underlying t = some (.int .i64)) : Opens enc W t I := fun n cs y h => by
  obtain ⟨m, rfl, -, -⟩ := DataW.trod_int ht h
  exact ⟨m, cr1 (.imm _) rfl⟩
theorem cell_spot {w : World} {a : Addr} {y : Value} (h : w.cell? a = some y) : a.spot = none := by
  unfold World.cell? at h
  split at h
  · cases hs : a.spot with
    | none => rfl
    | some k => rw [hs] at h; simp at h
  · cases h
theorem add_none (b off k : Nat) : (⟨b, off, none⟩ : Addr).add k = ⟨b, off + k, none⟩ := by unfold Addr.add; split <;> simp_all
theorem flat_at {α : Type} {f : α → V} {s : Nat} (hs : 0 < s) (hf : ∀ x, (f x).cl.length = s) : ∀ (l : List α) (j : Nat) (c : V), ((l.map f).flatMap V.cl)[j]? = some c → ∃ x, l[j / s]? = some x ∧ (f x).cl[j % s]? = some c
  | [], j, c, h => by simp at h
  | x :: l, j, c, h => by
    rw [List.map_cons, List.flatMap_cons] at h
    by_cases hj : j < s
    · rw [List.getElem?_append_left (by rw [hf]; exact hj)] at h
      exact ⟨x, by rw [Nat.div_eq_of_lt hj]; rfl, by rw [Nat.mod_eq_of_lt hj]; exact h⟩
    · rw [List.getElem?_append_right (by rw [hf]; omega), hf] at h
      obtain ⟨y, h1, h2⟩ := flat_at hs hf l (j - s) c h
      have hj : s ≤ j := by omega
      refine ⟨y, ?_, by rw [Nat.mod_eq_sub_mod hj]; exact h2⟩
      rw [Nat.div_eq_sub_div hs hj]; exact h1
theorem fields {H : Type} {enc : TypeId × Value → H} {W : World} {t : TypeId} {fs : Array Field} {n : Nat} {cs : List Value} {y : DataW H × List MemPlace} (ht : Try.prog.underlying t = some (.struct fs)) (h : DataW.trod enc Try.prog W 0 (fun _ => true) true n t cs = some y) :
    cs.length = Try.prog.cellsOf t ∧ ∀ (i : Nat) (f : Field), fs[i]? = some f → ∃ m z, DataW.trod enc Try.prog W 0 (fun _ => true) true m f.type ((cs.drop f.offset).take (Try.prog.cellsOf f.type)) = some z := by
  obtain ⟨xs, m, -, -, hl, hlen, hf⟩ := DataW.trod_struct ht h
  refine ⟨hl, fun i f hi => ?_⟩
  have h1 := hf i f hi
  have : i < xs.length := by rw [hlen]; exact (Array.getElem?_eq_some_iff.1 hi).1
  exact ⟨m, _, h1.trans (List.getElem?_eq_getElem this)⟩
theorem k3 : Try.prog.cellsOf 3 = 1 := by kernel_rfl
theorem one {H α : Type} {enc : TypeId × Value → H} {W : World} {t : TypeId} {f : α → V} (ho : Opens enc W t f) {c : Value} (hc : ∀ x, (f x).cl = [f x]) (h : ∃ m z, DataW.trod enc Try.prog W 0 (fun _ => true) true m t [c] = some z) : ∃ x, CR W [f x] [c] := by
  obtain ⟨m, z, h⟩ := h
  obtain ⟨x, hx⟩ := ho _ _ _ h
  rw [hc] at hx
  exact ⟨x, hx⟩
theorem fld1 {H : Type} {enc : TypeId × Value → H} {W : World} {t o : Nat} {cs : List Value} {c : Value} (h : ∃ m z, DataW.trod enc Try.prog W 0 (fun _ => true) true m t ((cs.drop o).take (Try.prog.cellsOf t)) = some z) (k : Try.prog.cellsOf t = 1) (hc : cs[o]? = some c) : ∃ m z, DataW.trod enc Try.prog W 0 (fun _ => true) true m t [c] = some z := by
  obtain ⟨hl, rfl⟩ := List.getElem?_eq_some_iff.1 hc
  rw [k, List.drop_eq_getElem_cons hl] at h
  exact h
theorem in_agg {H α : Type} {enc : TypeId × Value → H} {W : World} {base : Nat} {t : TypeId} {v : Value} {d : DataW H} {p : List MemPlace} {fs : Array Field} {g : α → List V} (ht : Try.prog.underlying t = some (.struct fs)) (ho : Opens enc W t (fun x : α => .agg (g x))) (hcl : ∀ x, (V.agg (g x)).cl = g x)
    (hv : Value.okWide Try.prog W .any base t v) (hA : DataW.Trod enc Try.prog W 0 (fun _ => true) true t v d p) : ∃ x : α, Rel (sg0 W) W (.agg (g x)) v := by
  unfold Value.okWide at hv
  rw [ht] at hv
  obtain ⟨cs, rfl, -⟩ := hv
  obtain ⟨fuel, hf⟩ := hA
  obtain ⟨x, hx⟩ := ho _ _ _ hf
  rw [hcl] at hx
  have hs : (Value.agg cs).cells.toList = cs.toList := rfl
  rw [hs] at hx
  refine ⟨x, .agg _ _ hx.1 (fun i y hy => ?_) fun i c hc => ?_⟩
  · have hi : i < (g x).length := by rw [hx.1]; simpa using (Array.getElem?_eq_some_iff.1 hy).1
    exact (hx.2 i _ y (List.getElem?_eq_getElem hi) (by simpa using hy)).2
  · have hi : i < cs.size := by rw [← Array.length_toList, ← hx.1]; exact (List.getElem?_eq_some_iff.1 hc).1
    have := (hx.2 i c cs[i] hc (by simp [hi])).1
    simpa [Array.getD, hi] using this
end Go.Proofs.Ytgodfjbmblghnaa


set_option linter.unusedVariables false
set_option linter.unusedSimpArgs false
set_option linter.unnecessarySimpa false
set_option maxRecDepth 20000
set_option maxHeartbeats 2000000
namespace Go.Proofs.Ytgodfjbmblghnaa
open Go Go.Ab Go.Proofs
attribute [local congr] g_bin g_nilS g_nilP g_un g_ext g_bx g_fa g_ld g_st g_ix g_ixA g_slc g_mk g_bs g_bd g_nc g_cv g_len g_lenT g_app g_appB g_cpy g_mm g_call g_callG g_calm g_calmG g_range g_res g_pick g_cond g_loop g_Jv g_eqS g_eqP g_fd g_ixT g_ta g_lkp g_upd g_mkM g_appS g_inv g_callE g_callEG g_invE g_zr g_wr
open Go.ChangeShapes Go.WideShapes Go.ChangeAt Go.RowKit
theorem opens_sliceB {H α : Type} {enc : TypeId × Value → H} {W : World} {t e : TypeId} {f : α → V} {s : Nat} (ht : Try.prog.underlying t = some (.slice e)) (hs : 0 < s) (hc : Try.prog.cellsOf e = s) (hf : ∀ x, (f x).cl.length = s ∧ (f x).Nd) (he : Opens enc W e f) :
    Opens enc W t (fun l : {l : List α // l.length ≤ maxLen} => .arr (l.1.map f) .no) := fun n cs y h => by
  rcases DataW.trod_slice ht h with ⟨rfl, -⟩ | ⟨a, len, cap, elems, rest, m, -, rfl, -, hb, hl, hm, hlen, hel, hre, -⟩
  · exact ⟨⟨[], Nat.zero_le _⟩, cr1 (.arr0 _ _ _ (fun h => by cases h) ⟨fun ad h => (by cases h), fun _ => rfl⟩) rfl⟩
  · rw [hc] at hel hre
    have go : ∀ (k : Nat) (z : DataW H × List MemPlace), (W.cells? 0 (a.add (k * s)) s).bind (DataW.trod enc Try.prog W 0 (fun _ => true) true m e) = some z → ∃ (x : α) (C : List Value), (∀ j, j < s → W.cell? ((a.add (k * s)).add j) = C[j]?) ∧ C.length = s ∧ CR W (f x).cl C := fun k z hz => by
      obtain ⟨C, h1, h2⟩ := Option.bind_eq_some_iff.1 hz
      obtain ⟨-, h3, h4⟩ := World.cells?_some h1
      obtain ⟨x, hx⟩ := he _ _ _ h2
      exact ⟨x, C, h4, h3, hx⟩
    have spot : cap = 0 ∨ a.spot = none := by
      by_cases h0 : cap = 0
      · exact .inl h0
      · refine .inr ?_
        have pick : ∃ z, (W.cells? 0 (a.add (0 * s)) s).bind (DataW.trod enc Try.prog W 0 (fun _ => true) true m e) = some z := by
          by_cases hl0 : 0 < len
          · exact ⟨_, (hel 0 hl0).trans (List.getElem?_eq_getElem (by omega))⟩
          · obtain rfl : len = 0 := by omega
            have := hre rfl
            exact ⟨_, (this.2 0 (by omega)).trans (List.getElem?_eq_getElem (by omega))⟩
        obtain ⟨z, hz⟩ := pick
        obtain ⟨x, C, h1, h2, -⟩ := go 0 z hz
        have h3 := h1 0 hs
        rw [List.getElem?_eq_getElem (by omega)] at h3
        rw [show (a.add (0 * s)).add 0 = a by simp [Addr.add]] at h3
        exact cell_spot h3
    have key : ∀ k, k ≤ len → ∃ l : List α, l.length = k ∧ ∃ C : Nat → List Value, ∀ i, i < k → (C i).length = s ∧ (∀ j, j < s → W.cell? ((a.add (i * s)).add j) = (C i)[j]?) ∧ ∀ x, l[i]? = some x → CR W (f x).cl (C i) := fun k => by
      induction k with
      | zero => exact fun _ => ⟨[], rfl, fun _ => [], fun i hi => absurd hi (Nat.not_lt_zero i)⟩
      | succ k ih =>
        intro hk
        obtain ⟨l, hll, C, hC⟩ := ih (by omega)
        obtain ⟨x, D, d1, d2, d3⟩ := go k _ ((hel k (by omega)).trans (List.getElem?_eq_getElem (by omega)))
        refine ⟨l ++ [x], by simp [hll], fun i => if i = k then D else C i, fun i hi => ?_⟩
        by_cases e : i = k
        · subst e
          simp only [if_true]
          refine ⟨d2, d1, fun x' hx => ?_⟩
          rw [List.getElem?_append_right (by omega), hll, Nat.sub_self] at hx
          cases hx
          exact d3
        · simp only [if_neg e]
          obtain ⟨c1, c2, c3⟩ := hC i (by omega)
          refine ⟨c1, c2, fun x' hx => c3 x' ?_⟩
          rw [List.getElem?_append_left (by omega)] at hx
          exact hx
    obtain ⟨l, hll, C, hC⟩ := key len (Nat.le_refl _)
    refine ⟨⟨l, by rw [hll]; exact Nat.le_trans hl hm⟩, cr1 ?_ rfl⟩
    show Rel _ _ (.arr (l.map f) .no) _
    by_cases h0 : len = 0
    · subst h0
      obtain rfl : l = [] := List.length_eq_zero_iff.1 hll
      refine .arr0 _ _ _ (fun h => by cases h) ⟨fun ad h => ?_, fun h => by cases h⟩
      cases h
      exact spot.symm
    · have hsp := spot.resolve_left (by omega)
      obtain ⟨b, off, sp⟩ := a
      cases hsp
      refine .arr _ .no b off len cap s (fun j => (C (j / s)).getD (j % s) undef) ?_ (by rw [List.length_map, hll]) hl (fun h => by cases h) hs ?_ ?_ ?_
      · intro h
        have := congrArg List.length h
        rw [List.length_map, hll] at this
        exact h0 this
      · intro z hz
        obtain ⟨x, -, rfl⟩ := List.mem_map.1 hz
        exact hf x
      all_goals
        intro j c hj
        obtain ⟨x, hx, hcx⟩ := flat_at hs (fun x => (hf x).1) l j c hj
        have hjl : j / s < len := by rw [← hll]; exact (List.getElem?_eq_some_iff.1 hx).1
        obtain ⟨c1, c2, c3⟩ := hC (j / s) hjl
        have hmod := Nat.mod_lt j hs
        have hg : (C (j / s))[j % s]? = some ((C (j / s)).getD (j % s) undef) := by rw [List.getD_eq_getElem?_getD, List.getElem?_eq_getElem (by omega)]; rfl
        obtain ⟨r1, r2⟩ := (c3 x hx).2 _ _ _ hcx hg
      · have c4 := c2 (j % s) hmod
        rw [add_none, add_none, Nat.add_assoc, Nat.mul_comm, Nat.div_add_mod, hg] at c4
        exact ⟨cells_lt c4, c4, r2⟩
      · exact r1
theorem opens_valB {H α : Type} {enc : TypeId × Value → H} {W : World} {t : TypeId} {f : α → V} {p : α → Prop} (h : Opens enc W t fun l : {l : List {x : α // p x} // l.length ≤ maxLen} => .arr (l.1.map fun x => f x.1) .no) : Opens enc W t fun l : {l : List α // l.length ≤ maxLen ∧ ∀ x, x ∈ l → p x} => .arr (l.1.map f) .no := fun n cs y k => by
  obtain ⟨⟨l, hn⟩, hl⟩ := h n cs y k
  refine ⟨⟨l.map Subtype.val, by rw [List.length_map]; exact hn, fun x hx => ?_⟩, ?_⟩
  · obtain ⟨z, -, rfl⟩ := List.mem_map.1 hx
    exact z.2
  · simp only [List.map_map]
    exact hl
theorem opens_str {H : Type} {enc : TypeId × Value → H} {W : World} : Opens enc W 9 fun s : {s : ByteArray // s.size ≤ maxLen} => T s.1 := fun n cs y h => by
  obtain ⟨s, rfl, -, hs⟩ := DataW.trod_string Try.underlying9 h
  exact ⟨⟨s, hs⟩, cr1 (.imm _) rfl⟩
theorem opens3 {H : Type} {enc : TypeId × Value → H} {W : World} : Opens enc W 3 I := opens_int Try.underlying3
theorem opens57 {H : Type} {enc : TypeId × Value → H} {W : World} : Opens enc W 57 I := opens_int Try.underlying57
theorem k57 : Try.prog.cellsOf 57 = 1 := by kernel_rfl
theorem k9 : Try.prog.cellsOf 9 = 1 := by kernel_rfl
theorem opensPi {H : Type} {enc : TypeId × Value → H} {W : World} : Opens enc W 59 piV := fun n cs y h => by
  obtain ⟨hl, hf⟩ := fields Try.underlying59 h
  rw [show Try.prog.cellsOf 59 = 4 by kernel_rfl] at hl
  match cs, hl with
  | [c0, c1, c2, c3], _ =>
    obtain ⟨a, ha⟩ := one (opens57 (enc := enc)) (fun _ => rfl) (fld1 (hf 0 _ rfl) k57 rfl)
    obtain ⟨b, hb⟩ := one (opens3 (enc := enc)) (fun _ => rfl) (fld1 (hf 1 _ rfl) k3 rfl)
    obtain ⟨c, hc⟩ := one (opens3 (enc := enc)) (fun _ => rfl) (fld1 (hf 2 _ rfl) k3 rfl)
    obtain ⟨d, hd⟩ := one (opens3 (enc := enc)) (fun _ => rfl) (fld1 (hf 3 _ rfl) k3 rfl)
    exact ⟨⟨a, b, c, d⟩, cr_cons ha (cr_cons hb (cr_cons hc (cr_cons hd cr_nil)))⟩
theorem opensPl {H : Type} {enc : TypeId × Value → H} {W : World} : Opens enc W 96 plV := fun n cs y h => by
  obtain ⟨hl, hf⟩ := fields Try.underlying96 h
  rw [show Try.prog.cellsOf 96 = 4 by kernel_rfl] at hl
  match cs, hl with
  | [c0, c1, c2, c3], _ =>
    obtain ⟨a, ha⟩ := one (opens3 (enc := enc)) (fun _ => rfl) (fld1 (hf 0 _ rfl) k3 rfl)
    obtain ⟨b, hb⟩ := one (opens3 (enc := enc)) (fun _ => rfl) (fld1 (hf 1 _ rfl) k3 rfl)
    obtain ⟨c, hc⟩ := one (opens3 (enc := enc)) (fun _ => rfl) (fld1 (hf 2 _ rfl) k3 rfl)
    obtain ⟨d, hd⟩ := one (opens3 (enc := enc)) (fun _ => rfl) (fld1 (hf 3 _ rfl) k3 rfl)
    exact ⟨⟨a, b, c, d⟩, cr_cons ha (cr_cons hb (cr_cons hc (cr_cons hd cr_nil)))⟩
theorem opens52 {H : Type} {enc : TypeId × Value → H} {W : World} : Opens enc W 52 fun l : {l : List Pi // l.length ≤ maxLen} => .arr (l.1.map piV) .no := opens_sliceB (s := 4) Try.underlying52 (by decide) (by kernel_rfl) (fun x => ⟨rfl, rfl⟩) opensPi
theorem opens23 {H : Type} {enc : TypeId × Value → H} {W : World} : Opens enc W 23 fun l : {l : List Pl // l.length ≤ maxLen} => .arr (l.1.map plV) .no := opens_sliceB (s := 4) Try.underlying23 (by decide) (by kernel_rfl) (fun x => ⟨rfl, rfl⟩) opensPl
theorem opensNu {H : Type} {enc : TypeId × Value → H} {W : World} : Opens enc W 54 fun r : {r : Nu // r.p.length ≤ maxLen} => nuV r.1 := fun n cs y h => by
  obtain ⟨hl, hf⟩ := fields Try.underlying54 h
  rw [show Try.prog.cellsOf 54 = 3 by kernel_rfl] at hl
  match cs, hl with
  | [c0, c1, c2], _ =>
    obtain ⟨a, ha⟩ := one (opens3 (enc := enc)) (fun _ => rfl) (fld1 (hf 0 _ rfl) k3 rfl)
    obtain ⟨b, hb⟩ := one (opens3 (enc := enc)) (fun _ => rfl) (fld1 (hf 1 _ rfl) k3 rfl)
    obtain ⟨c, hc⟩ := one (opens52 (enc := enc)) (fun _ => rfl) (fld1 (hf 2 _ rfl) (show Try.prog.cellsOf 52 = 1 by kernel_rfl) rfl)
    exact ⟨⟨⟨a, b, c.1⟩, c.2⟩, cr_cons ha (cr_cons hb (cr_cons hc cr_nil))⟩
theorem opens55 {H : Type} {enc : TypeId × Value → H} {W : World} : Opens enc W 55 fun l : {l : List Nu // l.length ≤ maxLen ∧ ∀ r, r ∈ l → r.p.length ≤ maxLen} => seV l.1 := opens_valB (opens_sliceB (s := 3) Try.underlying55 (by decide) (by kernel_rfl) (fun x => ⟨rfl, rfl⟩) opensNu)
theorem opens24 {H : Type} {enc : TypeId × Value → H} {W : World} : Opens enc W 24 fun l : {l : List (List Nu) // l.length ≤ maxLen ∧ ∀ x, x ∈ l → x.length ≤ maxLen ∧ ∀ r, r ∈ x → r.p.length ≤ maxLen} => .arr (l.1.map seV) .no := opens_valB (opens_sliceB (s := 1) Try.underlying24 (by decide) (by kernel_rfl) (fun x => ⟨rfl, rfl⟩) opens55)
theorem opensFo {H : Type} {enc : TypeId × Value → H} {W : World} : Opens enc W 71 fun f : {f : Fo // f.t.size ≤ maxLen} => foV f.1 := fun n cs y h => by
  obtain ⟨hl, hf⟩ := fields Try.underlying71 h
  rw [show Try.prog.cellsOf 71 = 4 by kernel_rfl] at hl
  match cs, hl with
  | [c0, c1, c2, c3], _ =>
    obtain ⟨a, ha⟩ := one (opens3 (enc := enc)) (fun _ => rfl) (fld1 (hf 0 _ rfl) k3 rfl)
    obtain ⟨b, hb⟩ := one (opens3 (enc := enc)) (fun _ => rfl) (fld1 (hf 1 _ rfl) k3 rfl)
    obtain ⟨c, hc⟩ := one (opens3 (enc := enc)) (fun _ => rfl) (fld1 (hf 2 _ rfl) k3 rfl)
    obtain ⟨d, hd⟩ := one (opens_str (enc := enc)) (fun _ => rfl) (fld1 (hf 3 _ rfl) k9 rfl)
    exact ⟨⟨⟨a, b, c, d.1⟩, d.2⟩, cr_cons ha (cr_cons hb (cr_cons hc (cr_cons hd cr_nil)))⟩
theorem opens60 {H : Type} {enc : TypeId × Value → H} {W : World} : Opens enc W 60 fun l : {l : List Fo // l.length ≤ maxLen ∧ ∀ f, f ∈ l → f.t.size ≤ maxLen} => .arr (l.1.map foV) .no := opens_valB (opens_sliceB (s := 4) Try.underlying60 (by decide) (by kernel_rfl) (fun x => ⟨rfl, rfl⟩) opensFo)
theorem opensTe {H : Type} {enc : TypeId × Value → H} {W : World} : Opens enc W 62 fun t : {t : Te // t.f.length ≤ maxLen ∧ ∀ f, f ∈ t.f → f.t.size ≤ maxLen} => teV t.1 := fun n cs y h => by
  obtain ⟨hl, hf⟩ := fields Try.underlying62 h
  rw [show Try.prog.cellsOf 62 = 2 by kernel_rfl] at hl
  match cs, hl with
  | [c0, c1], _ =>
    obtain ⟨a, ha⟩ := one (opens3 (enc := enc)) (fun _ => rfl) (fld1 (hf 0 _ rfl) k3 rfl)
    obtain ⟨b, hb⟩ := one (opens60 (enc := enc)) (fun _ => rfl) (fld1 (hf 1 _ rfl) (show Try.prog.cellsOf 60 = 1 by kernel_rfl) rfl)
    exact ⟨⟨⟨a, b.1⟩, b.2⟩, cr_cons ha (cr_cons hb cr_nil)⟩
theorem opens22 {H : Type} {enc : TypeId × Value → H} {W : World} : Opens enc W 22 fun l : {l : List Te // l.length ≤ maxLen ∧ ∀ t, t ∈ l → t.f.length ≤ maxLen ∧ ∀ f, f ∈ t.f → f.t.size ≤ maxLen} => .arr (l.1.map teV) .no := opens_valB (opens_sliceB (s := 2) Try.underlying22 (by decide) (by kernel_rfl) (fun x => ⟨rfl, rfl⟩) opensTe)
def syL (s : Sy) : List V := [I s.top, I s.gen, I s.cas, I s.cls, .arr (s.te.map teV) .no, .arr (s.pl.map plV) .no, .arr (s.se.map seV) .no]
theorem opens26 {H : Type} {enc : TypeId × Value → H} {W : World} : Opens enc W 26 fun s : {s : Sy // Sm s} => .agg (syL s.1) := fun n cs y h => by
  obtain ⟨hl, hf⟩ := fields Try.underlying26 h
  rw [show Try.prog.cellsOf 26 = 7 by kernel_rfl] at hl
  match cs, hl with
  | [c0, c1, c2, c3, c4, c5, c6], _ =>
    obtain ⟨a, ha⟩ := one (opens3 (enc := enc)) (fun _ => rfl) (fld1 (hf 0 _ rfl) k3 rfl)
    obtain ⟨b, hb⟩ := one (opens3 (enc := enc)) (fun _ => rfl) (fld1 (hf 1 _ rfl) k3 rfl)
    obtain ⟨c, hc⟩ := one (opens3 (enc := enc)) (fun _ => rfl) (fld1 (hf 2 _ rfl) k3 rfl)
    obtain ⟨d, hd⟩ := one (opens3 (enc := enc)) (fun _ => rfl) (fld1 (hf 3 _ rfl) k3 rfl)
    obtain ⟨e, he⟩ := one (opens22 (enc := enc)) (fun _ => rfl) (fld1 (hf 4 _ rfl) (show Try.prog.cellsOf 22 = 1 by kernel_rfl) rfl)
    obtain ⟨g, hg⟩ := one (opens23 (enc := enc)) (fun _ => rfl) (fld1 (hf 5 _ rfl) (show Try.prog.cellsOf 23 = 1 by kernel_rfl) rfl)
    obtain ⟨k, hk⟩ := one (opens24 (enc := enc)) (fun _ => rfl) (fld1 (hf 6 _ rfl) (show Try.prog.cellsOf 24 = 1 by kernel_rfl) rfl)
    exact ⟨⟨⟨a, b, c, d, e.1, g.1, k.1⟩, ⟨e.2.1, g.2, k.2.1, e.2.2, k.2.2⟩⟩, cr_cons ha (cr_cons hb (cr_cons hc (cr_cons hd (cr_cons he (cr_cons hg (cr_cons hk cr_nil))))))⟩
theorem in_sys {H : Type} {enc : TypeId × Value → H} {W : World} {base : Nat} {v : Value} {d : DataW H} {p : List MemPlace} (hv : Value.okWide Try.prog W .any base 26 v) (hA : DataW.Trod enc Try.prog W 0 (fun _ => true) true 26 v d p) : ∃ s : Sy, Sm s ∧ Rel (sg0 W) W (syV s) v := by
  obtain ⟨x, hx⟩ := in_agg (g := fun x : {s : Sy // Sm s} => syL x.1) Try.underlying26 opens26 (fun _ => rfl) hv hA
  exact ⟨x.1, x.2, hx⟩
end Go.Proofs.Ytgodfjbmblghnaa


set_option linter.unusedVariables false
set_option linter.unusedSimpArgs false
set_option linter.unnecessarySimpa false
set_option maxRecDepth 20000
set_option maxHeartbeats 2000000
namespace Go.Proofs.Ytgodfjbmblghnaa
open Go Go.Ab Go.Proofs
attribute [local congr] g_bin g_nilS g_nilP g_un g_ext g_bx g_fa g_ld g_st g_ix g_ixA g_slc g_mk g_bs g_bd g_nc g_cv g_len g_lenT g_app g_appB g_cpy g_mm g_call g_callG g_calm g_calmG g_range g_res g_pick g_cond g_loop g_Jv g_eqS g_eqP g_fd g_ixT g_ta g_lkp g_upd g_mkM g_appS g_inv g_callE g_callEG g_invE g_zr g_wr
open Go.ChangeShapes Go.WideShapes Go.ChangeAt Go.RowKit
theorem opens36 {H : Type} {enc : TypeId × Value → H} {W : World} : Opens enc W 36 fun x : Int × Int × Int × Int => .agg [I x.1, I x.2.1, I x.2.2.1, I x.2.2.2] := fun n cs y h => by
  obtain ⟨hl, hf⟩ := fields Try.underlying36 h
  rw [show Try.prog.cellsOf 36 = 4 by kernel_rfl] at hl
  match cs, hl with
  | [c0, c1, c2, c3], _ =>
    obtain ⟨a, ha⟩ := one (opens3 (enc := enc)) (fun _ => rfl) (fld1 (hf 0 _ rfl) k3 rfl)
    obtain ⟨b, hb⟩ := one (opens3 (enc := enc)) (fun _ => rfl) (fld1 (hf 1 _ rfl) k3 rfl)
    obtain ⟨c, hc⟩ := one (opens3 (enc := enc)) (fun _ => rfl) (fld1 (hf 2 _ rfl) k3 rfl)
    obtain ⟨d, hd⟩ := one (opens3 (enc := enc)) (fun _ => rfl) (fld1 (hf 3 _ rfl) k3 rfl)
    exact ⟨(a, b, c, d), cr_cons ha (cr_cons hb (cr_cons hc (cr_cons hd cr_nil)))⟩
theorem in_ask {H : Type} {enc : TypeId × Value → H} {W : World} {base : Nat} {v : Value} {d : DataW H} {p : List MemPlace} (hv : Value.okWide Try.prog W .any base 36 v) (hA : DataW.Trod enc Try.prog W 0 (fun _ => true) true 36 v d p) : ∃ n t g k : Int, Rel (sg0 W) W (asV n t g k) v := by
  obtain ⟨x, hx⟩ := in_agg (g := fun x : Int × Int × Int × Int => [I x.1, I x.2.1, I x.2.2.1, I x.2.2.2]) Try.underlying36 opens36 (fun _ => rfl) hv hA
  exact ⟨x.1, x.2.1, x.2.2.1, x.2.2.2, hx⟩
end Go.Proofs.Ytgodfjbmblghnaa


set_option linter.unusedVariables false
set_option linter.unusedSimpArgs false
set_option linter.unnecessarySimpa false
set_option maxRecDepth 20000
set_option maxHeartbeats 2000000
namespace Go.Proofs.Ytgodfjbmblghnaa
open Go Go.Ab Go.Proofs
attribute [local congr] g_bin g_nilS g_nilP g_un g_ext g_bx g_fa g_ld g_st g_ix g_ixA g_slc g_mk g_bs g_bd g_nc g_cv g_len g_lenT g_app g_appB g_cpy g_mm g_call g_callG g_calm g_calmG g_range g_res g_pick g_cond g_loop g_Jv g_eqS g_eqP g_fd g_ixT g_ta g_lkp g_upd g_mkM g_appS g_inv g_callE g_callEG g_invE g_zr g_wr
theorem ruI_at (l : List Nu) (n : Int) (a : Nat) (ha : a < l.length) (hb : (l.getD a default).b ≤ n) (hn : ∀ j, a < j → j < l.length → ¬ (l.getD j default).b ≤ n) : ruI l n = a := by
  have h : idxI (fun r : Nu => decide (r.b ≤ n)) l.reverse = ((l.length - 1 - a : Nat) : Int) := by
    refine idxI_at _ _ _ (l.getD a default) ?_ (decide_eq_true hb) fun j y hj hy => ?_
    · rw [List.getElem?_reverse (by omega), show l.length - 1 - (l.length - 1 - a) = a by omega]
      exact getD_someA l default ha
    · have hjl : j < l.length := by omega
      rw [List.getElem?_reverse hjl] at hy
      have : y = l.getD (l.length - 1 - j) default := by rw [List.getD_eq_getElem?_getD, hy]; rfl
      rw [this]
      exact decide_eq_false (hn _ (by omega) (by omega))
  unfold ruI
  rw [h]; omega
theorem c26 (l : List Nu) (n : Int) (H : Hp) (h0 : l ≠ []) (hb : (l.getD 0 default).b ≤ n) (hl : l.length ≤ 9223372036854775807) : Ret Try.prog 26 [seV l, I n] H (I (ruI l n)) H := by
  have hp : 0 < l.length := List.length_pos_iff.2 h0
  refine mk26 _ _ rfl (Nat.le_refl _) (.inl rfl) ?_
  simp only [vc26, real]
  repeat (first | (with_reducible first | refine Ju.go ?_ | (refine Hd.go ?_; intro K Q hK hQ; simp only [Try.underlying3, Try.underlying4, Try.underlying5, Try.underlying9, Try.underlying29, Try.underlying57, Try.underlying55, j_one, j_side, j_tl, j_fl, nod_nod, nod_imm, nod_ints, nd_no, nd_own, nd_full, nd_fO, oF_ap, oF_succ, nod_sl, nod_ptr, nod_cptr, nod_fn, nod_junk, nodL_imm, nod_agg, nod_tup, nod2_imm, nod2_agg, cl_imm, cl_ints, cl_agg, e_add, e_sub, e_mul, e_quo, e_rem, e_eql, e_neq, e_lss, e_leq, e_gtr, e_geq, e_beq, e_bne, e_neg, e_not, e_pick, e_cond, e_gT, e_gF, e_len, e_lenA, e_lenS, e_ix, e_ixS, e_ldc, e_ldci, e_fa, rep_cl, rep_I, e_bx, okE_I, okE_B, okE_E8, okE_ints, stV_imm, stV_ints, j_and', j_or', List.getD_cons_zero, List.getD_cons_succ, List.map_cons, List.map_nil, decide_eq_true_eq, Int.toNat_natCast, Nat.mul_one, Nat.zero_add, true_and, and_true, List.length_map, Bool.not_eq_true', decide_eq_false_iff_not, nod_lists, e_lenL, e_ixL, okE_lists, bs1, bs1L, bs2L, e_app, e_appL, e_app0, e_app0L, e_slcLo, e_slcHi, e_slcLH, e_slcHH, e_slcLHH, e_callG, e_callY, e_calmG, e_slS0, e_slSLo, e_slSHi, e_slSLH, e_slSHH, e_slSLHH, e_max2, e_min2, e_max3, e_x20, e_x21, e_x30, e_x31, e_x32, nod2_ints, nod2_lists, rep_fl, bs0, e_nilE, if_true, if_false, cond_true, cond_false, decide_true, decide_false, eq_self, Bool.false_eq_true, false_implies, true_implies, ap_own, ap_full, e_slcLoL, e_slcHiL, e_slcLHL, hp_assoc, hp_cons, hp_nil, hp_len, hp_len_cons, hp_len_nil, lv_cons, lv_nil, vs_0, vs_s, spl_s, spl_0, spl_n, dr_s, dr_0, tk_s, tk_0, e_bxI, e_fac, e_facA, e_ldcA, e_ldcL, e_ldcF, okE_agg, ck_I, ck_B, ck_ints, ck_lists, ck_arr, ck_ptr, ck_cptr, ck_fn, all_c, all_n, stV_agg, stV_lists, stV_arr, stV_ptr, stV_cptr, stV_fn, nodL_ints, nodL_lists, nodL_ptr, nodL_cptr, nodL_fn, nodL_arr0, cl_arr, cl_ptr, cl_cptr, cl_fn, cl_lists, okE_arr, okE_fn, okE_ptr, okE_cptr, e_bd0, e_bd1, e_wr, Nat.reduceAdd, Nat.reduceLeDiff, Nat.reduceEqDiff, Nat.add_zero, Bool.and_self, Bool.true_and, Bool.and_true, e_lc0, e_lA0, e_lM0, e_sc0, e_rc0, e_rA0, e_lI0, e_sI0, e_cI0, e_lc1, e_lA1, e_lM1, e_sc1, e_rc1, e_rA1, e_lI1, e_sI1, e_cI1, e_lc2, e_lA2, e_lM2, e_sc2, e_rc2, e_rA2, e_lI2, e_sI2, e_cI2, e_lc3, e_lA3, e_lM3, e_sc3, e_rc3, e_rA3, e_lI3, e_sI3, e_cI3, e_lc4, e_lA4, e_lM4, e_sc4, e_rc4, e_rA4, e_lI4, e_sI4, e_cI4, e_lc5, e_lA5, e_lM5, e_sc5, e_rc5, e_rA5, e_lI5, e_sI5, e_cI5, own0_arr, own0_ints, own0_lists, own0_imm, own0_ptr, own0_cptr, own0_fn, own0_agg, e_appB, e_appB0, ck_sl, own0_sl, stV_sl, nodL_sl, cl_sl, okE_sl, e_mkM, e_mkI, e_mkIm, e_callB, nod_bfn, nod_ifc, nod_map, nodL_ifc, nodL_bfn, nodL_map, cl_ifc, cl_bfn, ck_ifc, ck_bfn, ck_map, stV_ifc, okE_ifc, okE_bfn, nod_arr, nodL_arr, e_addU, e_mulU, e_shrK, e_shlK, e_andK, e_cv64, e_cv32, e_callEG, e_callEY, e_callEB, e_zr, e_nilSl, e_ncP, e_ncC, e_npnP, e_npeP, e_npnC, e_npeC, e_npnN, e_npeN, e_ixAP, e_ldcP, e_ldcS, e_ldcV, e_ldcT, okE_nilP, ck_nilP, okE_nilI, ck_nilI, okE_str, ck_str, e_tlen, e_tix, e_teq, e_tne, e_tadd, e_tb, e_u8lss, e_u8gtr, noV_full, nod_arr, List.length_map, reduceIte, Int.reduceEq, Int.reduceNeg, ne_eq, not_true_eq_false, not_false_eq_true, Bool.not_true, Bool.not_false, Bool.true_or, Bool.or_true, Bool.false_or, Bool.or_false, Bool.and_true, Bool.and_false, Bool.false_and, Bool.not_not, Bool.or_self, List.length_nil, Int.ofNat_zero, Int.cast_ofNat_Int, Int.natCast_zero, beq_self_eq_true, Bool.true_eq_false]; subst hK hQ) | refine Jr.go ?_) | refine sd ?_)
  refine loop_of (fun z : Nat × Nat => z.1 ≤ l.length ∧ z.2 < l.length ∧ (l.getD z.2 default).b ≤ n ∧ ∀ j, z.2 < j → j < z.1 → ¬ (l.getD j default).b ≤ n) (fun z => [seV l, I n, I z.2, I z.1]) (fun _ => H) (fun z => l.length - z.1) (0, 0) ⟨Nat.zero_le _, hp, hb, fun j _ h => absurd h (Nat.not_lt_zero _)⟩ rfl rfl ?_
  intro ⟨i, a⟩ ⟨hi, ha, hab, hn⟩
  dsimp only at hi ha hab hn ⊢
  repeat (first | (with_reducible first | refine Ju.go ?_ | (refine Hd.go ?_; intro K Q hK hQ; simp only [List.getD_cons_zero, nod_arr, nd_no, e_lenA, List.length_map, List.getD_cons_succ, nod_imm, Try.underlying3, e_lss, e_cond, decide_eq_true_eq]; subst hK hQ) | refine Jr.go ?_) | refine sd ?_)
  by_cases hlt : i < l.length
  · have d : (i : Int) < l.length := by omega
    repeat (first | (with_reducible first | refine Ju.go ?_ | (refine Hd.go ?_; intro K Q hK hQ; simp only [d, if_true, List.getD_cons_zero, nod_arr, nd_no, List.getD_cons_succ, nod_imm, ix_nu, Int.toNat_natCast, true_and, nod_cptr, e_fac, Nat.zero_add, lv_cons, List.length_nil, Nat.reduceAdd, Nat.reduceLeDiff, e_ldc, Try.underlying3, e_leq, e_cond, decide_eq_true_eq]; subst hK hQ) | refine Jr.go ?_) | refine sd ?_)
    by_cases hq : (l.getD i default).b ≤ n
    · repeat (first | (with_reducible first | refine Ju.go ?_ | (refine Hd.go ?_; intro K Q hK hQ; simp only [hq, if_true, List.getD_cons_zero, List.getD_cons_succ, nod_imm, Try.underlying3, e_add]; subst hK hQ) | refine Jr.go ?_) | refine sd ?_)
      exact ⟨(i + 1, i), ⟨by dsimp only; omega, hlt, hq, fun j h1 h2 => by dsimp only at h1 h2; omega⟩, rfl, rfl, by dsimp only; omega⟩
    · repeat (first | (with_reducible first | refine Ju.go ?_ | (refine Hd.go ?_; intro K Q hK hQ; simp only [hq, if_false, List.getD_cons_zero, List.getD_cons_succ, nod_imm, Try.underlying3, e_add]; subst hK hQ) | refine Jr.go ?_) | refine sd ?_)
      refine ⟨(i + 1, a), ⟨by dsimp only; omega, ha, hab, fun j h1 h2 => ?_⟩, rfl, rfl, by dsimp only; omega⟩
      dsimp only at h1 h2
      by_cases e : j = i
      · subst e; exact hq
      · exact hn j h1 (by omega)
  · have d : ¬ (i : Int) < l.length := by omega
    repeat (first | (with_reducible first | refine Ju.go ?_ | (refine Hd.go ?_; intro K Q hK hQ; simp only [d, if_false]; subst hK hQ) | refine Jr.go ?_) | refine sd ?_)
    rw [ruI_at l n a ha hab fun j h1 h2 => hn j h1 (by omega)]
    exact end1 (fzI _)
def cntG (s : Sy) (r : Nu) (g : Int) : Int := if 0 ≤ idxI (fun p : Pi => decide (p.k = 2)) r.p then (s.te.getD (r.p.getD (idxI (fun p : Pi => decide (p.k = 2)) r.p).toNat default).t.toNat default).g else g
theorem c55 (s : Sy) (r : Nu) (g : Int) (H : Hp) (hl : r.p.length ≤ 9223372036854775807) (ht : ∀ p, p ∈ r.p → p.k = 2 → 0 ≤ p.t ∧ p.t < s.te.length) : Ret Try.prog 55 [syV s, nuV r, I g] H (I (cntG s r g)) H := by
  refine mk55 _ _ _ rfl (Nat.le_refl _) (.inl rfl) ?_
  simp only [vc55, real]
  repeat (first | (with_reducible first | refine Ju.go ?_ | (refine Hd.go ?_; intro K Q hK hQ; simp only [nod_agg, List.map_cons, nodL_imm, nodL_arr, nd_no, List.map_nil, e_bxI, okE_agg, lv_cons, List.length_nil, Nat.zero_add, Nat.reduceAdd, all_c, ck_I, ck_arr, all_n, Bool.and_self, and_true, true_and]; subst hK hQ) | refine Jr.go ?_) | refine sd ?_)
  refine loop_of (fun i : Nat => i ≤ r.p.length ∧ ∀ (j : Nat) (y : Pi), j < i → r.p[j]? = some y → decide (y.k = 2) = false) (fun i => [I g, .cptr (syV s), .cptr (nuV r), I i]) (fun _ => H) (fun i => r.p.length - i) 0 ⟨Nat.zero_le _, fun j y h => absurd h (Nat.not_lt_zero _)⟩ rfl rfl ?_
  intro i ⟨hi, hp⟩
  repeat (first | (with_reducible first | refine Ju.go ?_ | (refine Hd.go ?_; intro K Q hK hQ; simp only [List.getD_cons_succ, List.getD_cons_zero, nod_cptr, e_fac, Nat.reduceAdd, lv_cons, List.length_nil, Nat.zero_add, Nat.reduceLeDiff, true_and, e_ldcV, nod_arr, nd_no, e_lenA, List.length_map, nod_imm, Try.underlying3, e_lss, e_cond, decide_eq_true_eq]; subst hK hQ) | refine Jr.go ?_) | refine sd ?_)
  by_cases hlt : i < r.p.length
  · have d : (i : Int) < r.p.length := by omega
    have hg := getD_someA r.p default hlt
    have hm := ht _ (getD_memA r.p default hlt)
    repeat (first | (with_reducible first | refine Ju.go ?_ | (refine Hd.go ?_; intro K Q hK hQ; simp only [d, if_true, List.getD_cons_succ, List.getD_cons_zero, nod_cptr, e_fac, Nat.reduceAdd, lv_cons, List.length_nil, Nat.zero_add, Nat.reduceLeDiff, true_and, e_ldcV, nod_arr, nd_no, nod_imm, ix_pi, Int.toNat_natCast, e_ldc, Try.underlying57, e_eql, e_cond, decide_eq_true_eq]; subst hK hQ) | refine Jr.go ?_) | refine sd ?_)
    by_cases hb : (r.p.getD i default).k = 2
    · obtain ⟨m1, m2⟩ := hm hb
      repeat (first | (with_reducible first | refine Ju.go ?_ | (refine Hd.go ?_; intro K Q hK hQ; simp only [hb, if_true, decide_true, List.getD_cons_succ, List.getD_cons_zero, nod_cptr, e_fac, Nat.reduceAdd, lv_cons, List.length_nil, Nat.zero_add, Nat.reduceLeDiff, true_and, e_ldcV, nod_arr, nd_no, nod_imm, ix_pi, d, Int.toNat_natCast, e_ldc, ix_te, m1, m2]; subst hK hQ) | refine Jr.go ?_) | refine sd ?_)
      have : cntG s r g = (s.te.getD (r.p.getD i default).t.toNat default).g := by
        unfold cntG
        rw [idxI_at _ r.p i _ hg (decide_eq_true hb) hp, if_pos (by omega), Int.toNat_natCast]
      rw [this]
      exact end1 (fzI _)
    · repeat (first | (with_reducible first | refine Ju.go ?_ | (refine Hd.go ?_; intro K Q hK hQ; simp only [hb, if_false, decide_false, List.getD_cons_zero, List.getD_cons_succ, nod_imm, Try.underlying3, e_add]; subst hK hQ) | refine Jr.go ?_) | refine sd ?_)
      refine ⟨i + 1, ⟨by omega, fun j y hj hy => ?_⟩, rfl, rfl, by omega⟩
      by_cases e : j = i
      · subst e
        rw [hg] at hy
        cases hy
        exact decide_eq_false hb
      · exact hp j y (by omega) hy
  · have d : ¬ (i : Int) < r.p.length := by omega
    repeat (first | (with_reducible first | refine Ju.go ?_ | (refine Hd.go ?_; intro K Q hK hQ; simp only [d, if_false]; subst hK hQ) | refine Jr.go ?_) | refine sd ?_)
    have : cntG s r g = g := by
      unfold cntG
      rw [idxI_none _ r.p (fun j y hy => hp j y (by have := (List.getElem?_eq_some_iff.1 hy).1; omega) hy), if_neg (by omega)]
    rw [this]
    exact end1 (fzI _)
theorem fitF_or (g k c : Int) (x : Fo) : ((decide (x.g = -1) || decide (x.g = g)) && (decide (x.k = -1) || decide (x.k = k)) && (decide (x.c = -1) || decide (x.c = c))) = fitF g k c x := by
  have e : ∀ x a : Int, decide (fit1 x a = x) = (decide (x = -1) || decide (x = a)) := fun x a => by
    unfold fit1
    by_cases h : x = -1
    · rw [if_pos h, decide_eq_true h]; simp [h]
    · rw [if_neg h, decide_eq_false h, Bool.false_or, decide_eq_decide]; exact eq_comm
  unfold fitF
  rw [e, e, e, Bool.and_assoc]
theorem c56 (t : Te) (g k c : Int) (H : Hp) (hl : t.f.length ≤ 9223372036854775807) : Ret Try.prog 56 [teV t, I g, I k, I c] H (.tup [T (txF t.f g k c), B (t.f.any (fitF g k c))]) H := by
  refine mk56 _ _ _ _ rfl (Nat.le_refl _) (.inl rfl) ?_
  simp only [vc56, real]
  repeat (first | (with_reducible first | refine Ju.go ?_ | (refine Hd.go ?_; intro K Q hK hQ; simp only [nod_agg, List.map_cons, nodL_imm, nodL_arr, nd_no, List.map_nil, e_bxI, okE_agg, lv_cons, List.length_nil, Nat.zero_add, Nat.reduceAdd, all_c, ck_I, ck_arr, all_n, Bool.and_self, and_true, true_and]; subst hK hQ) | refine Jr.go ?_) | refine sd ?_)
  refine loop_of (fun i : Nat => i ≤ t.f.length ∧ (t.f.take i).all (fun x => !fitF g k c x) = true) (fun i => [I g, I k, I c, .cptr (teV t), I i]) (fun _ => H) (fun i => t.f.length - i) 0 ⟨Nat.zero_le _, rfl⟩ rfl rfl ?_
  intro i ⟨hi, hp⟩
  repeat (first | (with_reducible first | refine Ju.go ?_ | (refine Hd.go ?_; intro K Q hK hQ; simp only [List.getD_cons_succ, List.getD_cons_zero, nod_cptr, e_fac, Nat.reduceAdd, lv_cons, List.length_nil, Nat.zero_add, Nat.reduceLeDiff, true_and, e_ldcV, nod_arr, nd_no, e_lenA, List.length_map, nod_imm, Try.underlying3, e_lss, e_cond, decide_eq_true_eq]; subst hK hQ) | refine Jr.go ?_) | refine sd ?_)
  by_cases hlt : i < t.f.length
  · have d : (i : Int) < t.f.length := by omega
    have hg := getD_someA t.f default hlt
    have hn := all_take t.f default (fun x => !fitF g k c x) hlt
    repeat (first | (with_reducible first | refine Ju.go ?_ | (refine Hd.go ?_; intro K Q hK hQ; simp only [d, if_true, List.getD_cons_succ, List.getD_cons_zero, nod_cptr, e_fac, Nat.reduceAdd, lv_cons, List.length_nil, Nat.zero_add, Nat.reduceLeDiff, true_and, e_ldcV, nod_arr, nd_no, nod_imm, ix_fo, Int.toNat_natCast, e_ldcA, nod_agg, List.map_cons, nodL_imm, List.map_nil, e_bxI, okE_agg, all_c, ck_I, ck_str, all_n, Bool.and_self, and_true, e_ldc, Try.underlying3, Int.reduceNeg, e_eql, e_gF, j_or', j_one, nod_nod, e_gT, j_and', e_cond]; subst hK hQ) | refine Jr.go ?_) | refine sd ?_)
    generalize t.f.getD i default = f at *
    have ef := fitF_or g k c f
    by_cases hf : fitF g k c f = true
    · rw [hf] at ef
      repeat (first | (with_reducible first | refine Ju.go ?_ | (refine Hd.go ?_; intro K Q hK hQ; simp only [Int.reduceNeg, ef, if_true, List.getD_cons_succ, List.getD_cons_zero, nod_cptr, e_fac, Nat.reduceAdd, lv_cons, List.length_nil, Nat.zero_add, Nat.reduceLeDiff, true_and, e_ldc]; subst hK hQ) | refine Jr.go ?_) | refine sd ?_)
      have : txF t.f g k c = f.t := by unfold txF; rw [find_at _ t.f i f hg hf hp]
      rw [this, show t.f.any (fitF g k c) = true from List.any_eq_true.2 ⟨f, List.mem_of_getElem? hg, hf⟩]
      exact end2 rfl rfl (.keep _ (.imm _)) (fzI _)
    · rw [Bool.eq_false_iff.2 hf] at ef
      repeat (first | (with_reducible first | refine Ju.go ?_ | (refine Hd.go ?_; intro K Q hK hQ; simp only [Int.reduceNeg, ef, Bool.false_eq_true, if_false, List.getD_cons_succ, List.getD_cons_zero, nod_imm, Try.underlying3, e_add]; subst hK hQ) | refine Jr.go ?_) | refine sd ?_)
      refine ⟨i + 1, ⟨by omega, ?_⟩, rfl, rfl, by omega⟩
      rw [hn, hp, Bool.eq_false_iff.2 hf]; rfl
  · have d : ¬ (i : Int) < t.f.length := by omega
    rw [List.take_of_length_le (by omega)] at hp
    repeat (first | (with_reducible first | refine Ju.go ?_ | (refine Hd.go ?_; intro K Q hK hQ; simp only [d, if_false]; subst hK hQ) | refine Jr.go ?_) | refine sd ?_)
    have : txF t.f g k c = ByteArray.mk #[] := by unfold txF; rw [find_no _ t.f hp]
    rw [this, show t.f.any (fitF g k c) = false from by
      rw [List.any_eq_false]
      intro x hx hh
      have := List.all_eq_true.1 hp x hx
      rw [hh] at this
      cases this]
    exact end2 rfl rfl (.keep _ (.imm _)) (fzI _)
theorem find_spec {α : Type} (p : α → Bool) (l : List α) (x : α) (h : l.find? p = some x) : x ∈ l ∧ p x = true := ⟨List.mem_of_find?_eq_some h, List.find?_some h⟩
theorem gd_form {s : Sy} (ok : okSy s = true) (a : At) (t g k c : Int) (h0 : 0 ≤ t) (h1 : t < s.te.length) : gdW (formW s a t g k c) = (s.te.getD t.toNat default).f.any (fitF g k c) := by
  have hm := List.all_eq_true.1 (okSy.parts ok).2.2.1 _ (getD_memA s.te default (show t.toNat < s.te.length by omega))
  show (!decide (txF (s.te.getD t.toNat default).f g k c = ByteArray.mk #[])) = _
  generalize s.te.getD t.toNat default = e at *
  unfold okTe at hm
  simp only [Bool.and_eq_true] at hm
  have hf := List.all_eq_true.1 hm.2
  unfold txF
  cases hq : e.f.find? (fitF g k c) with
  | none =>
    rw [List.find?_eq_none] at hq
    rw [show e.f.any (fitF g k c) = false from List.any_eq_false.2 hq]
    rfl
  | some x =>
    obtain ⟨m1, m2⟩ := find_spec _ _ _ hq
    rw [show e.f.any (fitF g k c) = true from List.any_eq_true.2 ⟨x, m1, m2⟩]
    have := hf x m1
    unfold okFo okT at this
    simp only [Bool.and_eq_true, inB_iff] at this
    have h3 := this.2.1.1
    show (!decide (x.t = ByteArray.mk #[])) = true
    have : x.t ≠ ByteArray.mk #[] := by
      intro h
      rw [h] at h3
      have : (ByteArray.mk #[]).size = 0 := rfl
      rw [this] at h3
      omega
    rw [decide_eq_false this]; rfl
end Go.Proofs.Ytgodfjbmblghnaa


set_option linter.unusedVariables false
set_option linter.unusedSimpArgs false
set_option linter.unnecessarySimpa false
set_option maxRecDepth 20000
set_option maxHeartbeats 2000000
namespace Go.Proofs.Ytgodfjbmblghnaa
open Go Go.Ab Go.Proofs
attribute [local congr] g_bin g_nilS g_nilP g_un g_ext g_bx g_fa g_ld g_st g_ix g_ixA g_slc g_mk g_bs g_bd g_nc g_cv g_len g_lenT g_app g_appB g_cpy g_mm g_call g_callG g_calm g_calmG g_range g_res g_pick g_cond g_loop g_Jv g_eqS g_eqP g_fd g_ixT g_ta g_lkp g_upd g_mkM g_appS g_inv g_callE g_callEG g_invE g_zr g_wr
theorem ru_b0 {s : Sy} {n t : Int} (ok : okSy s = true) (hn : 0 ≤ n) (h0 : 0 ≤ t) (h1 : t < s.se.length) : ((s.se.getD t.toNat []).getD 0 default).b ≤ n := by
  have hm := getD_memA s.se [] (show t.toNat < s.se.length by omega)
  have hs := List.all_eq_true.1 (okSy.parts ok).2.2.2.2 _ hm
  unfold okSe at hs
  simp only [Bool.and_eq_true, inB_iff, decide_eq_true_eq] at hs
  rw [hs.1.1.2]; exact hn
def fmP (pcs : Nat → List Sd) (i : Nat) : List Sd := (List.range i).flatMap pcs
theorem fm_s (pcs : Nat → List Sd) (i : Nat) : fmP pcs (i + 1) = fmP pcs i ++ pcs i := by unfold fmP; rw [List.range_succ, List.flatMap_append]; simp
theorem fm_bad {pcs : Nat → List Sd} {i m : Nat} (h : i < m) (hb : (pcs i).all gdW = false) : (fmP pcs m).all gdW = false := by
  rw [List.all_eq_false] at hb ⊢
  obtain ⟨x, hx, hx2⟩ := hb
  exact ⟨x, List.mem_flatMap.2 ⟨i, List.mem_range.2 h, hx⟩, hx2⟩
theorem fm_len (pcs : Nat → List Sd) {i m : Nat} (h : i ≤ m) : (fmP pcs i).length ≤ (fmP pcs m).length := by
  induction m with
  | zero => rw [show i = 0 by omega]; exact Nat.le_refl _
  | succ m ih =>
    by_cases e : i = m + 1
    · rw [e]; exact Nat.le_refl _
    · rw [fm_s, List.length_append]
      have := ih (by omega)
      omega
theorem fm_len1 (pcs : Nat → List Sd) {i m : Nat} (h : i < m) : (fmP pcs i).length + (pcs i).length ≤ (fmP pcs m).length := by
  have := fm_len pcs (show i + 1 ≤ m by omega)
  rw [fm_s, List.length_append] at this
  exact this
theorem bs1S' (x : ByteArray) (n t r p d : Int) (z : V) (K : V → Prop) : aBS 6 1 z [(0, .agg [T x, I n, I t, I r, I p, I d])] K = K (.arr [.agg [T x, I n, I t, I r, I p, I d]] .full) := bs1S ⟨x, n, t, r, p, d⟩ z K
theorem app1S' (l : List Sd) (x : ByteArray) (n t r p d : Int) (f g : Fl) (K : V → Prop) : aApp 6 56 (sds l f) (.arr [.agg [T x, I n, I t, I r, I p, I d]] g) K = (f.ap = true ∧ (l.length + 1) * 56 ≤ 140737488355328 ∧ K (sds (l ++ [⟨x, n, t, r, p, d⟩]) .own)) := app1S l ⟨x, n, t, r, p, d⟩ f g K
theorem appSS (l m : List Sd) (f g : Fl) (K : V → Prop) : aApp 6 56 (sds l f) (sds m g) K = (f.ap = true ∧ (l.length + m.length) * 56 ≤ 140737488355328 ∧ K (sds (l ++ m) .own)) :=
  e_appE (K := K) sdV (fun _ => rfl) 56 l m f g
theorem endF {H Z X : Hp} (hZ : H ++ X = Z) : retF (.tup [.arr [] .no, B false]) H [.arr [] .full, B false] Z := end2F rfl rfl (.full _ (.arr _ _ fun c hc => by simp at hc)) (fzI _) (by rw [← hZ]; simp)
theorem c23 (s : Sy) (sm : Sm s) (hok : okSy s = true) : ∀ (f : Nat) (n t g k d : Int) (H : Hp), n.toNat < f → 0 ≤ n → n ≤ 1000000000000 → 0 ≤ t → t < s.se.length → 0 ≤ d → d + n ≤ 10000000000000 →
    Ret Try.prog 23 [syV s, asV n t g k, I d] H (.tup [sds (if (sayF f s n t g k d).all gdW = true then sayF f s n t g k d else []) .no, B ((sayF f s n t g k d).all gdW)]) H := by
  have hm := okSy.mod hok
  have h1 := sm.te
  have h2 := sm.se
  intro f
  induction f with
  | zero => intro n t g k d H hf; omega
  | succ f ih =>
    intro n t g k d H hf hn hn2 ht0 ht1 hd0 hd1
    have ru := ruOk sm hok hn ht0 ht1
    have hb0 := ru_b0 hok hn ht0 ht1
    have h800 := say_800 s sm hok (f + 1) n t g k d hn hn2 ht0 ht1
    have a1 := ru.i0
    have a2 := ru.i1
    have a3 := ru.b
    have a4 := ru.d
    have a5 := ru.pl
    have ec : (atOf s n t g k d).c = cntG s (ruOf s n t) g := rfl
    refine mk23 _ _ _ rfl (Nat.le_refl _) (.inl rfl) ?_
    simp only [vc23, real]
    repeat (first | (with_reducible first | refine Ju.go ?_ | (refine Hd.go ?_; intro K Q hK hQ; simp only [nod_agg, List.map_cons, nodL_imm, nodL_arr, nd_no, List.map_nil, e_bxI, okE_agg, lv_cons, List.length_nil, Nat.zero_add, Nat.reduceAdd, all_c, ck_I, ck_arr, all_n, Bool.and_self, and_true, true_and, nod_cptr, e_fac, Nat.reduceLeDiff, List.getD_cons_succ, List.getD_cons_zero, e_ldcV, e_ldc, nod_arr, nod_imm, ix_se, ht0, ht1]; subst hK hQ) | refine Jr.go ?_) | refine sd ?_)
    refine call_ofD (c26 _ n _ ru.ne hb0 (by have := ru.len; omega)) ?_
    have eR : (s.se.getD t.toNat []).getD (ruI (s.se.getD t.toNat []) n).toNat default = ruOf s n t := rfl
    repeat (first | (with_reducible first | refine Ju.go ?_ | (refine Hd.go ?_; intro K Q hK hQ; simp only [List.getD_cons_succ, List.getD_cons_zero, nod_cptr, e_fac, Nat.reduceAdd, lv_cons, List.length_nil, Nat.zero_add, Nat.reduceLeDiff, true_and, e_ldcV, e_ldc, nod_arr, nd_no, nod_imm, ix_se, ht0, ht1, ix_nu, a1, a2, eR, e_ldcA, nod_agg, List.map_cons, nodL_imm, nodL_arr, List.map_nil, e_bxI, okE_agg, all_c, ck_I, ck_arr, all_n, Bool.and_self, and_true, Try.underlying3, e_gtr, e_cond, decide_eq_true_eq]; subst hK hQ) | refine Jr.go ?_) | refine sd ?_)
    have eat : atOf s n t g k d = { n := n, t := t, g := g, k := k, r := ruI (s.se.getD t.toNat []) n, p := 0, d := d, q := if 0 < (ruOf s n t).d then n.tdiv (ruOf s n t).d else 0, e := if 0 < (ruOf s n t).d then n.tmod (ruOf s n t).d else 0, c := (atOf s n t g k d).c } := rfl
    have hpk := ru.p
    have hW : sayF (f + 1) s n t g k d = fmP (fun i : Nat =>
      pcW s { atOf s n t g k d with p := (i : Int) } ((ruOf s n t).p.getD i default) (sayF f s (atOf s n t g k d).q ((ruOf s n t).p.getD i default).s (atOf s n t g k d).c (atOf s n t g k d).k ((atOf s n t g k d).d + 1)) (sayF f s (atOf s n t g k d).e ((ruOf s n t).p.getD i default).s (atOf s n t g k d).g (atOf s n t g k d).k ((atOf s n t g k d).d + 1))) (ruOf s n t).p.length := rfl
    have hk2 : ∀ p, p ∈ (ruOf s n t).p → p.k = 2 → 0 ≤ p.t ∧ p.t < s.te.length := fun p hp hk => (okPi_k (hpk p hp)).2.1 (.inr (.inl hk))
    have hq : (ruOf s n t).d ≠ 0 → 0 ≤ n.tdiv (ruOf s n t).d ∧ n.tdiv (ruOf s n t).d < n ∧ 0 ≤ n.tmod (ruOf s n t).d ∧ n.tmod (ruOf s n t).d < n := fun h => by
      have h2 : 2 ≤ (ruOf s n t).d := by omega
      have h3 : (ruOf s n t).d ≤ n := by omega
      rw [Int.tdiv_eq_ediv_of_nonneg hn, Int.tmod_eq_emod_of_nonneg hn]
      refine ⟨Int.ediv_nonneg hn (by omega), ?_, Int.emod_nonneg _ (by omega), ?_⟩
      · exact Int.ediv_lt_self_of_pos_of_ne_one (by omega) (by omega)
      · have := Int.emod_lt_of_pos n (show 0 < (ruOf s n t).d by omega)
        omega
    clear eR ru hb0
    generalize hWW : sayF (f + 1) s n t g k d = W at *
    clear hWW
    generalize hat : atOf s n t g k d = at0 at *
    generalize hri : ruI (s.se.getD t.toNat []) n = ri at *
    generalize ruOf s n t = r at *
    generalize hRR : Rn _ = R
    have key : ∀ q e : Int, q = (if 0 < r.d then n.tdiv r.d else 0) → e = (if 0 < r.d then n.tmod r.d else 0) → R [I d, .cptr (syV s), .cptr (asV n t g k), I ri, .cptr (nuV r), I n, I q, I e] H := by
      intro q e eq ee
      rw [← hRR]
      refine rn_go ?_
      rw [← eq, ← ee] at eat
      obtain ⟨cc, hcc⟩ : ∃ cc, cc = at0.c := ⟨_, rfl⟩
      rw [← hcc] at eat ec
      clear hcc
      subst eat
      clear hRR hat hri
      clear R
      dsimp only at hW
      rw [ec] at hW
      clear ec
      generalize hpcs : (fun i : Nat => pcW s _ _ _ _) = pcs at hW
      have hpc : ∀ i : Nat, pcs i = pcW s { n := n, t := t, g := g, k := k, r := ri, p := (i : Int), d := d, q := q, e := e, c := cntG s r g } (r.p.getD i default) (sayF f s q (r.p.getD i default).s (cntG s r g) k (d + 1)) (sayF f s e (r.p.getD i default).s g k (d + 1)) := fun i => by rw [← hpcs]
      clear hpcs
      generalize hcc : ({ n := n, t := t, g := g, k := k, r := ri, p := (0 : Int), d := d, q := q, e := e, c := cntG s r g } : At).c = cc0 at hpc
      have hlW : ∀ i, i < r.p.length → (fmP pcs i).length + (pcs i).length ≤ 800 := fun i hi => by have := fm_len1 pcs hi; rw [← hW] at this; omega
      have hbad : ∀ i, i < r.p.length → (pcs i).all gdW = false → W.all gdW = false := fun i hi h => by rw [hW]; exact fm_bad hi h
      refine loop_of (fun z : Nat × Hp × Fl => z.1 ≤ r.p.length ∧ (fmP pcs z.1).all gdW = true ∧ z.2.2.ap = true) (fun z => [I d, .cptr (syV s), .cptr (asV n t g k), I ri, .cptr (nuV r), I n, I q, I e, sds (fmP pcs z.1) z.2.2, I z.1]) (fun z => H ++ z.2.1) (fun z => r.p.length - z.1) (0, [], .full) ⟨Nat.zero_le _, rfl, rfl⟩ rfl (by simp) ?_
      intro ⟨i, X, fl⟩ ⟨hi, hall, hfl⟩
      dsimp only at hi hall hfl ⊢
      generalize hZ : H ++ X = Z
      by_cases hlt : i < r.p.length
      · have di : (i : Int) < r.p.length := by omega
        have hpm := hpk _ (getD_memA r.p default hlt)
        have hk2' := hk2 _ (getD_memA r.p default hlt)
        have hpi := hpc i
        have hlWi := hlW i hlt
        have hbadi := hbad i hlt
        have hfs := fm_s pcs i
        repeat (first | (with_reducible first | refine Ju.go ?_ | (refine Hd.go ?_; intro K Q hK hQ; simp only [List.getD_cons_succ, List.getD_cons_zero, nod_cptr, e_fac, Nat.reduceAdd, lv_cons, List.length_nil, Nat.zero_add, Nat.reduceLeDiff, true_and, e_ldcV, nod_arr, nd_no, e_lenA, List.length_map, nod_imm, Try.underlying3, e_lss, di, decide_true, e_cond, if_true, ix_pi, Int.toNat_natCast, e_ldcA, nod_agg, List.map_cons, nodL_imm, List.map_nil, e_bxI, okE_agg, all_c, ck_I, all_n, Bool.and_self, and_true, e_bx, cl_agg, nod_ptr, e_sc0, stV_agg, spl_0, spl_n, e_ldc, e_fa, stV_imm, okE_I, cl_imm, spl_s, Nat.add_zero, Int.reduceNeg, nodL_arr]; subst hK hQ) | refine Jr.go ?_) | refine sd ?_)
        generalize r.p.getD i default = p at *
        refine calm_of (fun H => c19 s n H sm hm) ?_
        obtain ⟨hk, hpt, hps, hdv⟩ := okPi_k hpm
        repeat (first | (with_reducible first | refine Ju.go ?_ | (refine Hd.go ?_; intro K Q hK hQ; simp only [List.getD_cons_succ, List.getD_cons_zero, nod_cptr, e_fac, Nat.reduceAdd, lv_cons, List.length_nil, Nat.zero_add, Nat.reduceLeDiff, true_and, Int.reduceNeg, e_ldc, nod_imm, Try.underlying57, e_eql, e_cond, decide_eq_true_eq]; subst hK hQ) | refine Jr.go ?_) | refine sd ?_)
        generalize hR63 : Rn _ = R63
        have nm1 : ¬ (0 : Int) ≤ -1 := by decide
        have kS : ∀ c g' : Int, 0 ≤ p.t → p.t < s.te.length → pcs i = [formW s { n := n, t := t, g := g, k := k, r := ri, p := (i : Int), d := d, q := q, e := e, c := cc } p.t g' k c] →
            R63 [I d, .cptr (syV s), .cptr (asV n t g k), I ri, .cptr (nuV r), I n, I q, I e, sds (fmP pcs i) fl, I i, .cptr (piV p), .ptr Z.length 0, I c, I g', B true] (Z ++ [.cells [I (-1), I p.s, I g, I k]]) := by
          intro c g' t0 t1 hp1
          have hte := (sm.fo _ (getD_memA s.te default (show p.t.toNat < s.te.length by omega))).1
          have hgd := gd_form hok { n := n, t := t, g := g, k := k, r := ri, p := (i : Int), d := d, q := q, e := e, c := cc } p.t g' k c t0 t1
          rw [← hR63]
          refine rn_go ?_
          rw [hp1] at hlWi hbadi hfs
          rw [List.length_singleton] at hlWi
          repeat (first | (with_reducible first | refine Ju.go ?_ | (refine Hd.go ?_; intro K Q hK hQ; simp only [List.getD_cons_succ, List.getD_cons_zero, nod_imm, e_cond, if_true, nod_cptr, e_fac, Nat.reduceAdd, lv_cons, List.length_nil, Nat.zero_add, Nat.reduceLeDiff, true_and, Int.reduceNeg, e_ldcV, e_ldc, nod_arr, nd_no, ix_te, t0, t1, e_ldcA, nod_agg, List.map_cons, nodL_imm, nodL_arr, List.map_nil]; subst hK hQ) | refine Jr.go ?_) | refine sd ?_)
          refine call_ofD (c56 _ g' k c _ hte) ?_
          cases hany : (s.te.getD p.t.toNat default).f.any (fitF g' k c)
          · rw [hany] at hgd
            repeat (first | (with_reducible first | refine Ju.go ?_ | (refine Hd.go ?_; intro K Q hK hQ; simp only [nod_tup, List.map_cons, nod2_imm, List.map_nil, e_x20, e_x21, List.getD_cons_zero, List.getD_cons_succ, Int.reduceNeg, nod_imm, e_not, Bool.not_false, e_cond, if_true]; subst hK hQ) | refine Jr.go ?_) | refine sd ?_)
            rw [hbadi (by rw [List.all_cons, hgd]; rfl)]
            exact endF (X := X ++ [_]) (by rw [← hZ, List.append_assoc])
          · rw [hany] at hgd
            repeat (first | (with_reducible first | refine Ju.go ?_ | (refine Hd.go ?_; intro K Q hK hQ; simp only [nod_tup, List.map_cons, nod2_imm, List.map_nil, e_x20, e_x21, List.getD_cons_zero, List.getD_cons_succ, Int.reduceNeg, nod_imm, e_not, Bool.not_true, e_cond, Bool.false_eq_true, if_false, nod_cptr, e_fac, Nat.reduceAdd, lv_cons, List.length_nil, Nat.zero_add, Nat.reduceLeDiff, true_and, e_ldc, e_bd1, okE_str, cl_imm, spl_0, spl_n, okE_I, spl_s, e_bd0, own0_imm, nod_agg, nodL_imm, bs1S', nod_arr, nd_full, app1S', hfl, nod_ptr, e_fa, Nat.add_zero, e_lc0, Try.underlying3, e_geq, nm1, decide_false, e_add]; subst hK hQ) | refine Jr.go ?_) | refine sd ?_)
            refine ⟨(i + 1, X ++ [.cells [I (-1), I p.s, I g, I k]], .own), ⟨by dsimp only; omega, by dsimp only; rw [hfs, List.all_append, hall, List.all_cons, hgd]; rfl, rfl⟩, by dsimp only; rw [hfs]; rfl, by dsimp only; rw [← hZ, List.append_assoc], by dsimp only; omega⟩
        have kN : ∀ c g' : Int, pcs i = [] → R63 [I d, .cptr (syV s), .cptr (asV n t g k), I ri, .cptr (nuV r), I n, I q, I e, sds (fmP pcs i) fl, I i, .cptr (piV p), .ptr Z.length 0, I c, I g', B false] (Z ++ [.cells [I (-1), I p.s, I g, I k]]) := by
          intro c g' hp1
          rw [← hR63]
          refine rn_go ?_
          rw [hp1, List.append_nil] at hfs
          repeat (first | (with_reducible first | refine Ju.go ?_ | (refine Hd.go ?_; intro K Q hK hQ; simp only [List.getD_cons_succ, List.getD_cons_zero, nod_imm, e_cond, Bool.false_eq_true, if_false, Int.reduceNeg, nod_ptr, e_fa, Nat.add_zero, e_lc0, Nat.zero_add, lv_cons, List.length_nil, Nat.reduceAdd, Nat.reduceLeDiff, true_and, Try.underlying3, e_geq, nm1, decide_false, e_add]; subst hK hQ) | refine Jr.go ?_) | refine sd ?_)
          refine ⟨(i + 1, X ++ [.cells [I (-1), I p.s, I g, I k]], fl), ⟨by dsimp only; omega, by dsimp only; rw [hfs]; exact hall, hfl⟩, by dsimp only; rw [hfs]; rfl, by dsimp only; rw [← hZ, List.append_assoc], by dsimp only; omega⟩
        have kR : ∀ m g2 c g' : Int, 0 ≤ p.s → p.s < s.se.length → 0 ≤ m → m < n → pcs i = sayF f s m p.s g2 k (d + 1) → R63 [I d, .cptr (syV s), .cptr (asV n t g k), I ri, .cptr (nuV r), I n, I q, I e, sds (fmP pcs i) fl, I i, .cptr (piV p), .ptr Z.length 0, I c, I g', B false] (Z ++ [.cells [I m, I p.s, I g2, I k]]) := by
          intro m g2 c g' s0 s1 m0 m1 hp1
          rw [← hR63]
          refine rn_go ?_
          have hr := fun H => ih m p.s g2 k (d + 1) H (by omega) m0 (by omega) s0 s1 (by omega) (by omega)
          rw [← hp1] at hr
          have rd : R64 (d + 1) := by unfold R64; omega
          repeat (first | (with_reducible first | refine Ju.go ?_ | (refine Hd.go ?_; intro K Q hK hQ; simp only [List.getD_cons_succ, List.getD_cons_zero, nod_imm, e_cond, Bool.false_eq_true, if_false, nod_ptr, e_fa, Nat.add_zero, e_lc0, Nat.zero_add, lv_cons, List.length_nil, Nat.reduceAdd, Nat.reduceLeDiff, true_and, Try.underlying3, e_geq, m0, decide_true, if_true, nod_cptr, e_ldcA, e_lA0, dr_0, tk_s, tk_0, nod_agg, List.map_cons, nodL_imm, List.map_nil, e_add, rd, nodL_arr, nd_no]; subst hK hQ) | refine Jr.go ?_) | refine sd ?_)
          refine call_of (hr _) ?_
          cases hany : (pcs i).all gdW
          · repeat (first | (with_reducible first | refine Ju.go ?_ | (refine Hd.go ?_; intro K Q hK hQ; simp only [Bool.false_eq_true, if_false, nod_tup, List.map_cons, nod2_imm, List.map_nil, e_x20, e_x21, List.getD_cons_zero, List.getD_cons_succ, nod_imm, e_not, Bool.not_false, e_cond, if_true]; subst hK hQ) | refine Jr.go ?_) | refine sd ?_)
            rw [hbadi hany]
            exact endF (X := X ++ [_]) (by rw [← hZ, List.append_assoc])
          · rw [if_pos rfl]
            repeat (first | (with_reducible first | refine Ju.go ?_ | (refine Hd.go ?_; intro K Q hK hQ; simp only [nod_tup, List.map_cons, nod2_arr, nd_no, nod2_imm, List.map_nil, e_x20, e_x21, List.getD_cons_zero, List.getD_cons_succ, nod_imm, e_not, Bool.not_true, e_cond, Bool.false_eq_true, if_false, nod_arr, appSS, hfl, true_and, Try.underlying3, e_add]; subst hK hQ) | refine Jr.go ?_) | refine sd ?_)
            refine ⟨(i + 1, X ++ [.cells [I m, I p.s, I g2, I k]], .own), ⟨by dsimp only; omega, by dsimp only; rw [hfs, List.all_append, hall, hany]; rfl, rfl⟩, by dsimp only; rw [hfs]; rfl, by dsimp only; rw [← hZ, List.append_assoc], by dsimp only; omega⟩
        unfold pcW at hpi
        dsimp only at hpi
        by_cases k1 : p.k = 1
        · rw [if_pos k1] at hpi
          obtain ⟨t0, t1⟩ := hpt (.inl k1)
          repeat (first | (with_reducible first | refine Ju.go ?_ | (refine Hd.go ?_; intro K Q hK hQ; simp only [k1, Int.reduceEq, if_false, nod_imm, Try.underlying57, e_eql, decide_false, e_cond, Bool.false_eq_true]; subst hK hQ) | refine Jr.go ?_) | refine sd ?_)
          rw [decide_eq_true k1]
          exact kS _ _ t0 t1 hpi
        rw [if_neg k1] at hpi
        have z : r.d ≠ 0 := fun h => by have := hdv (by omega); rw [h] at this; cases this
        have hqq := hq z
        rw [if_pos (show 0 < r.d by omega)] at eq ee
        by_cases k2 : p.k = 2
        · rw [if_pos k2] at hpi
          obtain ⟨t0, t1⟩ := hpt (.inr (.inl k2))
          repeat (first | (with_reducible first | refine Ju.go ?_ | (refine Hd.go ?_; intro K Q hK hQ; simp only [k2, if_true, Int.reduceEq, decide_false, List.getD_cons_succ, List.getD_cons_zero, nod_cptr, Int.reduceNeg, e_ldcA, lv_cons, List.length_nil, Nat.zero_add, Nat.reduceAdd, true_and, nod_agg, List.map_cons, nodL_imm, nodL_arr, nd_no, List.map_nil, nod_imm]; subst hK hQ) | refine Jr.go ?_) | refine sd ?_)
          refine calm_of (fun H => c19 s q H sm hm) ?_
          repeat (first | (with_reducible first | refine Ju.go ?_ | (refine Hd.go ?_; intro K Q hK hQ; simp only [k2, Int.reduceEq, decide_false, List.getD_cons_succ, List.getD_cons_zero, nod_cptr, e_fac, Nat.reduceAdd, lv_cons, List.length_nil, Nat.zero_add, Nat.reduceLeDiff, true_and, Int.reduceNeg, e_ldcV, e_ldc, nod_arr, nd_no, nod_imm, ix_te, t0, t1]; subst hK hQ) | refine Jr.go ?_) | refine sd ?_)
          exact kS _ _ t0 t1 hpi
        rw [if_neg k2] at hpi
        by_cases k3 : p.k = 3
        · rw [if_pos k3] at hpi
          obtain ⟨s0, s1⟩ := hps (.inl k3)
          repeat (first | (with_reducible first | refine Ju.go ?_ | (refine Hd.go ?_; intro K Q hK hQ; simp only [k3, Int.reduceEq, if_false, nod_imm, Try.underlying57, e_eql, decide_true, e_cond, if_true, decide_false, List.getD_cons_succ, List.getD_cons_zero, nod_cptr, Int.reduceNeg, e_ldcA, lv_cons, List.length_nil, Nat.zero_add, Nat.reduceAdd, true_and, e_fac, Nat.reduceLeDiff, e_ldc, nod_agg, List.map_cons, nodL_imm, nodL_arr, nd_no, List.map_nil]; subst hK hQ) | refine Jr.go ?_) | refine sd ?_)
          refine call_of (c55 s r g _ (by omega) hk2) ?_
          repeat (first | (with_reducible first | refine Ju.go ?_ | (refine Hd.go ?_; intro K Q hK hQ; simp only [List.getD_cons_succ, List.getD_cons_zero, nod_ptr, e_fa, Nat.add_zero, nod_imm, Int.reduceNeg, e_sc0, Nat.zero_add, lv_cons, List.length_nil, Nat.reduceAdd, Nat.reduceLeDiff, stV_imm, okE_I, cl_imm, spl_0, spl_n, true_and, spl_s]; subst hK hQ) | refine Jr.go ?_) | refine sd ?_)
          rw [decide_eq_false k1]
          exact kR q _ _ _ s0 s1 (by omega) (by omega) hpi
        rw [if_neg k3] at hpi
        by_cases k4 : p.k = 4
        · rw [if_pos k4] at hpi
          obtain ⟨s0, s1⟩ := hps (.inr k4)
          by_cases he : e = 0
          · rw [if_pos he] at hpi
            have he' : ¬ (0 : Int) < e := by omega
            repeat (first | (with_reducible first | refine Ju.go ?_ | (refine Hd.go ?_; intro K Q hK hQ; simp only [k4, Int.reduceEq, if_false, nod_imm, Try.underlying57, e_eql, decide_false, e_cond, Bool.false_eq_true, decide_true, if_true, List.getD_cons_succ, List.getD_cons_zero, Try.underlying3, e_gtr, he']; subst hK hQ) | refine Jr.go ?_) | refine sd ?_)
            rw [decide_eq_false k1]
            exact kN _ _ hpi
          · rw [if_neg he] at hpi
            have he' : (0 : Int) < e := by omega
            repeat (first | (with_reducible first | refine Ju.go ?_ | (refine Hd.go ?_; intro K Q hK hQ; simp only [k4, Int.reduceEq, if_false, nod_imm, Try.underlying57, e_eql, decide_false, e_cond, Bool.false_eq_true, decide_true, if_true, List.getD_cons_succ, List.getD_cons_zero, Try.underlying3, e_gtr, he', nod_ptr, e_fa, Nat.add_zero, Int.reduceNeg, e_sc0, Nat.zero_add, lv_cons, List.length_nil, Nat.reduceAdd, Nat.reduceLeDiff, stV_imm, okE_I, cl_imm, spl_0, spl_n, true_and]; subst hK hQ) | refine Jr.go ?_) | refine sd ?_)
            rw [decide_eq_false k1]
            exact kR e _ _ _ s0 s1 (by omega) (by omega) hpi
        rw [if_neg k4] at hpi
        have k5 : p.k = 5 := by omega
        obtain ⟨t0, t1⟩ := hpt (.inr (.inr k5))
        repeat (first | (with_reducible first | refine Ju.go ?_ | (refine Hd.go ?_; intro K Q hK hQ; simp only [k5, Int.reduceEq, if_false, nod_imm, Try.underlying57, e_eql, decide_false, e_cond, Bool.false_eq_true, decide_true, if_true, List.getD_cons_succ, List.getD_cons_zero, nod_cptr, Int.reduceNeg, e_ldcA, lv_cons, List.length_nil, Nat.zero_add, Nat.reduceAdd, true_and, nod_agg, List.map_cons, nodL_imm, nodL_arr, nd_no, List.map_nil]; subst hK hQ) | refine Jr.go ?_) | refine sd ?_)
        refine call_ofD (c19 s e _ sm hm) ?_
        by_cases hc : e = 0 ∨ p.b ≠ 0 ∧ p.b ≤ e
        · rw [if_pos hc] at hpi
          have eb : (decide (0 < e) && (decide (p.b = 0) || decide (e < p.b))) = false := by
            rw [Bool.eq_false_iff]
            simp only [ne_eq, Bool.or_eq_true, Bool.and_eq_true, decide_eq_true_eq]
            omega
          repeat (first | (with_reducible first | refine Ju.go ?_ | (refine Hd.go ?_; intro K Q hK hQ; simp only [List.getD_cons_succ, List.getD_cons_zero, nod_imm, Try.underlying3, e_gtr, nod_cptr, Int.reduceNeg, nod_nod, e_fac, Nat.reduceAdd, lv_cons, List.length_nil, Nat.zero_add, Nat.reduceLeDiff, e_ldc, e_lss, true_and, e_eql, e_gF, j_or', e_gT, j_and', eb, j_one]; subst hK hQ) | refine Jr.go ?_) | refine sd ?_)
          exact kN _ _ hpi
        · rw [if_neg hc] at hpi
          have eb : (decide (0 < e) && (decide (p.b = 0) || decide (e < p.b))) = true := by
            simp only [Bool.or_eq_true, Bool.and_eq_true, decide_eq_true_eq]
            omega
          repeat (first | (with_reducible first | refine Ju.go ?_ | (refine Hd.go ?_; intro K Q hK hQ; simp only [List.getD_cons_succ, List.getD_cons_zero, nod_imm, Try.underlying3, e_gtr, nod_cptr, Int.reduceNeg, nod_nod, e_fac, Nat.reduceAdd, lv_cons, List.length_nil, Nat.zero_add, Nat.reduceLeDiff, e_ldc, e_lss, true_and, e_eql, e_gF, j_or', e_gT, j_and', eb, j_one]; subst hK hQ) | refine Jr.go ?_) | refine sd ?_)
          exact kS _ _ t0 t1 hpi
      · have di : ¬ (i : Int) < r.p.length := by omega
        repeat (first | (with_reducible first | refine Ju.go ?_ | (refine Hd.go ?_; intro K Q hK hQ; simp only [List.getD_cons_succ, List.getD_cons_zero, nod_cptr, e_fac, Nat.reduceAdd, lv_cons, List.length_nil, Nat.zero_add, Nat.reduceLeDiff, true_and, e_ldcV, nod_arr, nd_no, e_lenA, List.length_map, nod_imm, Try.underlying3, e_lss, di, decide_false, e_cond, Bool.false_eq_true, if_false]; subst hK hQ) | refine Jr.go ?_) | refine sd ?_)
        rw [show i = r.p.length by omega, ← hW] at hall
        rw [show i = r.p.length by omega, ← hW, hall, if_pos rfl]
        subst hZ
        cases fl
        · exact end2F rfl rfl (.keep _ (bel_map _ _ _ (bel_sd _))) (fzI _) (by simp)
        · exact end2F rfl rfl (.keep _ (bel_map _ _ _ (bel_sd _))) (fzI _) (by simp)
        · exact end2F rfl rfl (.full _ (bel_map _ _ _ (bel_sd _))) (fzI _) (by simp)
    by_cases hd : 0 < r.d
    · have hz : r.d ≠ 0 := by omega
      have hq' := hq hz
      have r1 : R64 (n.tdiv r.d) := by unfold R64; omega
      repeat (first | (with_reducible first | refine Ju.go ?_ | (refine Hd.go ?_; intro K Q hK hQ; simp only [hd, if_true, List.getD_cons_succ, List.getD_cons_zero, nod_cptr, e_fac, Nat.reduceAdd, lv_cons, List.length_nil, Nat.zero_add, Nat.reduceLeDiff, true_and, e_ldc, nod_imm, Try.underlying3, e_quo, ne_eq, hz, not_false_eq_true, r1, e_rem]; subst hK hQ) | refine Jr.go ?_) | refine sd ?_)
      exact key _ _ (by rw [if_pos hd]) (by rw [if_pos hd])
    · repeat (first | (with_reducible first | refine Ju.go ?_ | (refine Hd.go ?_; intro K Q hK hQ; simp only [hd, if_false]; subst hK hQ) | refine Jr.go ?_) | refine sd ?_)
      exact key 0 0 (by rw [if_neg hd]) (by rw [if_neg hd])
end Go.Proofs.Ytgodfjbmblghnaa


set_option linter.unusedVariables false
set_option linter.unusedSimpArgs false
set_option linter.unnecessarySimpa false
set_option maxRecDepth 20000
set_option maxHeartbeats 2000000
namespace Go.Proofs.Ytgodfjbmblghnaa
open Go Go.Ab Go.Proofs
attribute [local congr] g_bin g_nilS g_nilP g_un g_ext g_bx g_fa g_ld g_st g_ix g_ixA g_slc g_mk g_bs g_bd g_nc g_cv g_len g_lenT g_app g_appB g_cpy g_mm g_call g_callG g_calm g_calmG g_range g_res g_pick g_cond g_loop g_Jv g_eqS g_eqP g_fd g_ixT g_ta g_lkp g_upd g_mkM g_appS g_inv g_callE g_callEG g_invE g_zr g_wr
theorem okAsk_parts {s : Sy} {n t g k : Int} (h : okAsk s n t g k = true) : okSy s = true ∧ 0 ≤ n ∧ n ≤ s.top ∧ s.top ≤ 999999999999 ∧ 0 ≤ t ∧ t < s.se.length ∧ 0 ≤ g ∧ g < s.gen ∧ 0 ≤ k ∧ k < s.cas := by
  unfold okAsk at h
  simp only [Bool.and_eq_true, inB_iff] at h
  have ht := (okSy.parts h.1.1.1.1).1
  unfold okHd at ht
  simp only [Bool.and_eq_true, inB_iff] at ht
  refine ⟨h.1.1.1.1, ?_⟩
  omega
theorem c23s (s : Sy) (n t g k : Int) (H : Hp) (sm : Sm s) (hok : okAsk s n t g k = true) : Ret Try.prog 23 [syV s, asV n t g k, I 0] H (.tup [sds (trW s n t g k) .no, B ((saW s n t g k).all gdW)]) H := by
  obtain ⟨h1, h2, h3, h4, h5, h6, h7, h8, h9⟩ := okAsk_parts hok
  exact c23 s sm h1 _ n t g k 0 H (by omega) h2 (by omega) h5 h6 (by omega) (by omega)
theorem c24 (s : Sy) (n t g k : Int) (H : Hp) (sm : Sm s) (hok : okAsk s n t g k = true) : Ret Try.prog 24 [syV s, asV n t g k] H (.tup [.arr ((trW s n t g k).map tx) .no, B ((saW s n t g k).all gdW)]) H := by
  have hlen := trW_len sm hok
  refine mk24 _ _ rfl (Nat.le_refl _) (.inl rfl) ?_
  simp only [vc24, real]
  repeat (first | (with_reducible first | refine Ju.go ?_ | (refine Hd.go ?_; intro K Q hK hQ; simp only [nod_agg, List.map_cons, nodL_imm, nodL_arr, nd_no, List.map_nil, e_bxI, okE_agg, lv_cons, List.length_nil, Nat.zero_add, Nat.reduceAdd, all_c, ck_I, ck_arr, all_n, Bool.and_self, and_true, true_and, nod_cptr, e_ldcA]; subst hK hQ) | refine Jr.go ?_) | refine sd ?_)
  refine call_of (c23s s n t g k _ sm hok) ?_
  generalize trW s n t g k = l at *
  generalize (saW s n t g k).all gdW = bb at *
  repeat (first | (with_reducible first | refine Ju.go ?_ | (refine Hd.go ?_; intro K Q hK hQ; simp only [nod_tup, List.map_cons, nod2_arr, nd_no, nod2_imm, List.map_nil, e_x20, e_x21]; subst hK hQ) | refine Jr.go ?_) | refine sd ?_)
  refine loop_of (fun i : Nat => i ≤ l.length) (fun i => [sds l .no, B bb, .arr ((l.take i).map tx) (oF i), I i]) (fun _ => H) (fun i => l.length - i) 0 (Nat.zero_le _) rfl rfl ?_
  intro i hi
  repeat (first | (with_reducible first | refine Ju.go ?_ | (refine Hd.go ?_; intro K Q hK hQ; simp only [List.getD_cons_zero, nod_arr, nd_no, e_lenA, List.length_map, List.getD_cons_succ, nod_imm, Try.underlying3, e_lss, e_cond, decide_eq_true_eq]; subst hK hQ) | refine Jr.go ?_) | refine sd ?_)
  by_cases hlt : i < l.length
  · have d : (i : Int) < l.length := by omega
    have tk := take_snocA l default hlt
    have tl : (l.take i).length = i := by rw [List.length_take]; omega
    repeat (first | (with_reducible first | refine Ju.go ?_ | (refine Hd.go ?_; intro K Q hK hQ; simp only [d, if_true, List.getD_cons_zero, nod_arr, nd_no, List.getD_cons_succ, nod_imm, ix_sd, Int.toNat_natCast, true_and, nod_cptr, e_fac, Nat.zero_add, lv_cons, List.length_nil, Nat.reduceAdd, Nat.reduceLeDiff, e_ldc]; subst hK hQ) | refine Jr.go ?_) | refine sd ?_)
    generalize l.getD i default = w at *
    repeat (first | (with_reducible first | refine Ju.go ?_ | (refine Hd.go ?_; intro K Q hK hQ; simp only [bs1T, List.getD_cons_succ, List.getD_cons_zero, nod_arr, nd_full, app1T, oF_ap, tl, true_and, nod_imm, Try.underlying3, e_add]; subst hK hQ) | refine Jr.go ?_) | refine sd ?_)
    exact ⟨i + 1, by omega, by rw [tk]; rfl, rfl, by omega⟩
  · have d : ¬ (i : Int) < l.length := by omega
    repeat (first | (with_reducible first | refine Ju.go ?_ | (refine Hd.go ?_; intro K Q hK hQ; simp only [d, if_false]; subst hK hQ) | refine Jr.go ?_) | refine sd ?_)
    rw [List.take_of_length_le (by omega)]
    have bl : ∀ f, Bel H.length (.arr (l.map tx) f) := fun f => bel_map _ _ _ fun w => .imm _
    generalize oF i = f
    cases f
    · exact end2F rfl rfl (.keep _ (bl _)) (fzI _) (by simp)
    · exact end2F rfl rfl (.keep _ (bl _)) (fzI _) (by simp)
    · exact end2F rfl rfl (.full _ (bl _)) (fzI _) (by simp)
def okRt (s : Sy) (n t g k : Int) : Bool := decide (0 ≤ n) && decide (n ≤ s.top) && decide (0 ≤ t) && decide (t < s.se.length) && decide (0 ≤ g) && decide (g < s.gen) && decide (0 ≤ k) && decide (k < s.cas)
theorem c54 (s : Sy) (n t g k : Int) (H : Hp) (sm : Sm s) : Ret Try.prog 54 [syV s, asV n t g k] H (B (okRt s n t g k)) H := by
  have := sm.se
  refine mk54 _ _ rfl (Nat.le_refl _) (.inl rfl) ?_
  simp only [vc54, real]
  repeat (first | (with_reducible first | refine Ju.go ?_ | (refine Hd.go ?_; intro K Q hK hQ; simp only [nod_agg, List.map_cons, nodL_imm, nodL_arr, nd_no, List.map_nil, e_bxI, okE_agg, lv_cons, List.length_nil, Nat.zero_add, Nat.reduceAdd, all_c, ck_I, ck_arr, all_n, Bool.and_self, and_true, true_and, nod_cptr, e_fac, Nat.reduceLeDiff, List.getD_cons_zero, e_ldc, nod_imm, Try.underlying3, e_geq, e_leq, e_gT, j_and', j_one, List.getD_cons_succ, e_ldcV, nod_arr, e_lenA, List.length_map, e_lss]; subst hK hQ) | refine Jr.go ?_) | refine sd ?_)
  exact end1 (fzI _)
theorem okAsk_rt (s : Sy) (n t g k : Int) : okAsk s n t g k = (okSy s && okRt s n t g k) := by
  unfold okAsk okRt inB
  rw [Bool.eq_iff_iff]
  simp only [Bool.and_eq_true, decide_eq_true_eq]
  constructor <;> intro h <;> refine ⟨?_, ?_⟩ <;> simp only [h, and_true, true_and] <;> omega
def rfE (s : Sy) (n t g k : Int) (sc : Bool) : Int := if okAsk s n t g k = true then (if sc = true ∧ 20000 < n then 4 else 0) else 2
theorem c22 (s : Sy) (n t g k : Int) (sc : Bool) (H : Hp) (sm : Sm s) : Ret Try.prog 22 [syV s, asV n t g k, B sc] H (I (rfE s n t g k sc)) H := by
  have e := okAsk_rt s n t g k
  unfold rfE
  refine mk22 _ _ _ rfl (Nat.le_refl _) (.inl rfl) ?_
  simp only [vc22, real]
  repeat (first | (with_reducible first | refine Ju.go ?_ | (refine Hd.go ?_; intro K Q hK hQ; simp only [nod_agg, List.map_cons, nodL_imm, nodL_arr, nd_no, List.map_nil, e_bxI, okE_agg, lv_cons, List.length_nil, Nat.zero_add, Nat.reduceAdd, all_c, ck_I, ck_arr, all_n, Bool.and_self, and_true, true_and, nod_cptr, e_ldcA]; subst hK hQ) | refine Jr.go ?_) | refine sd ?_)
  refine call_of (c17 s _ sm) ?_
  cases ho : okSy s
  · rw [ho, Bool.false_and] at e
    rw [e, if_neg (by decide)]
    repeat (first | (with_reducible first | refine Ju.go ?_ | (refine Hd.go ?_; intro K Q hK hQ; simp only [nod_imm, e_not, Bool.not_false, nod_cptr, e_ldcA, lv_cons, List.length_nil, Nat.zero_add, Nat.reduceAdd, nod_agg, List.map_cons, nodL_imm, List.map_nil, true_and, nodL_arr, nd_no, e_gF, cond_true, j_one, List.getD_cons_succ, List.getD_cons_zero, e_cond, if_true]; subst hK hQ) | refine Jr.go ?_) | refine sd ?_)
    exact end1 (fzI _)
  · rw [ho, Bool.true_and] at e
    rw [e]
    repeat (first | (with_reducible first | refine Ju.go ?_ | (refine Hd.go ?_; intro K Q hK hQ; simp only [nod_imm, e_not, Bool.not_true, nod_cptr, e_ldcA, lv_cons, List.length_nil, Nat.zero_add, Nat.reduceAdd, nod_agg, List.map_cons, nodL_imm, List.map_nil, true_and, nodL_arr, nd_no, e_gF, cond_false]; subst hK hQ) | refine Jr.go ?_) | refine sd ?_)
    refine call_of (c54 s n t g k _ sm) ?_
    cases hr : okRt s n t g k
    · repeat (first | (with_reducible first | refine Ju.go ?_ | (refine Hd.go ?_; intro K Q hK hQ; simp only [nod_imm, e_not, Bool.not_false, List.getD_cons_succ, List.getD_cons_zero, e_cond, if_true]; subst hK hQ) | refine Jr.go ?_) | refine sd ?_)
      exact end1 (fzI _)
    · rw [if_pos rfl]
      by_cases hc : sc = true ∧ 20000 < n
      · obtain ⟨rfl, h2⟩ := hc
        rw [if_pos ⟨rfl, h2⟩]
        repeat (first | (with_reducible first | refine Ju.go ?_ | (refine Hd.go ?_; intro K Q hK hQ; simp only [nod_imm, e_not, Bool.not_true, List.getD_cons_succ, List.getD_cons_zero, e_cond, Bool.false_eq_true, if_false, nod_cptr, Try.underlying3, e_fac, Nat.zero_add, lv_cons, List.length_nil, Nat.reduceAdd, Nat.reduceLeDiff, e_ldc, e_gtr, h2, decide_true, true_and, e_gT, cond_true, j_one, if_true]; subst hK hQ) | refine Jr.go ?_) | refine sd ?_)
        exact end1 (fzI _)
      · rw [if_neg hc]
        cases sc
        · repeat (first | (with_reducible first | refine Ju.go ?_ | (refine Hd.go ?_; intro K Q hK hQ; simp only [nod_imm, e_not, Bool.not_true, List.getD_cons_succ, List.getD_cons_zero, e_cond, Bool.false_eq_true, if_false, nod_cptr, Try.underlying3, e_fac, Nat.zero_add, lv_cons, List.length_nil, Nat.reduceAdd, Nat.reduceLeDiff, e_ldc, e_gtr, true_and, e_gT, cond_false, j_one]; subst hK hQ) | refine Jr.go ?_) | refine sd ?_)
          exact end1 (fzI _)
        · have h2 : ¬ 20000 < n := fun h => hc ⟨rfl, h⟩
          repeat (first | (with_reducible first | refine Ju.go ?_ | (refine Hd.go ?_; intro K Q hK hQ; simp only [nod_imm, e_not, Bool.not_true, List.getD_cons_succ, List.getD_cons_zero, e_cond, Bool.false_eq_true, if_false, nod_cptr, Try.underlying3, e_fac, Nat.zero_add, lv_cons, List.length_nil, Nat.reduceAdd, Nat.reduceLeDiff, e_ldc, e_gtr, h2, decide_false, true_and, e_gT, cond_true, j_one]; subst hK hQ) | refine Jr.go ?_) | refine sd ?_)
          exact end1 (fzI _)
end Go.Proofs.Ytgodfjbmblghnaa


set_option linter.unusedVariables false
set_option linter.unusedSimpArgs false
set_option linter.unnecessarySimpa false
set_option maxRecDepth 20000
set_option maxHeartbeats 2000000
namespace Go.Proofs.Ytgodfjbmblghnaa
open Go Go.Ab Go.Proofs
attribute [local congr] g_bin g_nilS g_nilP g_un g_ext g_bx g_fa g_ld g_st g_ix g_ixA g_slc g_mk g_bs g_bd g_nc g_cv g_len g_lenT g_app g_appB g_cpy g_mm g_call g_callG g_calm g_calmG g_range g_res g_pick g_cond g_loop g_Jv g_eqS g_eqP g_fd g_ixT g_ta g_lkp g_upd g_mkM g_appS g_inv g_callE g_callEG g_invE g_zr g_wr
theorem ru_div {s : Sy} {n t : Int} (ru : RuOk s n t) (hn : 0 ≤ n) (h : (ruOf s n t).d ≠ 0) : 2 ≤ (ruOf s n t).d ∧ 1 ≤ n.tdiv (ruOf s n t).d ∧ n.tdiv (ruOf s n t).d < n ∧ 0 ≤ n.tmod (ruOf s n t).d ∧ n.tmod (ruOf s n t).d < n := by
  have a3 := ru.b
  have a4 := ru.d
  have h2 : 2 ≤ (ruOf s n t).d := by omega
  have h3 : (ruOf s n t).d ≤ n := by omega
  rw [Int.tdiv_eq_ediv_of_nonneg hn, Int.tmod_eq_emod_of_nonneg hn]
  refine ⟨h2, Int.le_ediv_of_mul_le (by omega) (by omega), ?_, Int.emod_nonneg _ (by omega), ?_⟩
  · exact Int.ediv_lt_self_of_pos_of_ne_one (by omega) (by omega)
  · have := Int.emod_lt_of_pos n (show 0 < (ruOf s n t).d by omega)
    omega
end Go.Proofs.Ytgodfjbmblghnaa


set_option linter.unusedVariables false
set_option linter.unusedSimpArgs false
set_option linter.unnecessarySimpa false
set_option maxRecDepth 20000
set_option maxHeartbeats 2000000
namespace Go.Proofs.Ytgodfjbmblghnaa
open Go Go.Ab Go.Proofs
attribute [local congr] g_bin g_nilS g_nilP g_un g_ext g_bx g_fa g_ld g_st g_ix g_ixA g_slc g_mk g_bs g_bd g_nc g_cv g_len g_lenT g_app g_appB g_cpy g_mm g_call g_callG g_calm g_calmG g_range g_res g_pick g_cond g_loop g_Jv g_eqS g_eqP g_fd g_ixT g_ta g_lkp g_upd g_mkM g_appS g_inv g_callE g_callEG g_invE g_zr g_wr
def fil (P : Int → Bool) (n : Int) : List Int := ((List.range (n.toNat + 1)).map Int.ofNat).filter P
theorem fil_snoc (P : Int → Bool) (i : Nat) : ((List.range (i + 1)).map Int.ofNat).filter P = ((List.range i).map Int.ofNat).filter P ++ (if P i = true then [(i : Int)] else []) := by
  rw [List.range_succ, List.map_append, List.filter_append]
  congr 1
  show List.filter _ [(i : Int)] = _
  rw [List.filter_cons]
  rfl
theorem fil_len (P : Int → Bool) (i : Nat) : (((List.range i).map Int.ofNat).filter P).length ≤ i := by
  refine Nat.le_trans (List.length_filter_le _ _) ?_
  simp
theorem fil_len' (P : Int → Bool) (n : Int) : (fil P n).length ≤ n.toNat + 1 := fil_len P _
theorem c58g (P : Int → Bool) (F : Nat) (caps : List V) (n : Int) (H : Hp) (hn : 0 ≤ n) (h2 : n ≤ 20000) (hc : ∀ (m : Int) (H : Hp), 0 ≤ m → m ≤ n → Ret Try.prog F (I m :: caps) H (.tup [I m, B (P m)]) H) :
    Ret Try.prog 58 [I n, .fn F caps] H (ints (fil P n) .no) H := by
  have en : ((n.toNat : Nat) : Int) = n := by omega
  refine mk58 _ _ rfl (Nat.le_refl _) (.inl rfl) ?_
  simp only [vc58, real]
  repeat (first | (with_reducible first | refine Ju.go ?_ | (refine Hd.go ?_; intro K Q hK hQ; simp only [nod_imm, Try.underlying3, e_add]; subst hK hQ) | refine Jr.go ?_) | refine sd ?_)
  refine loop_of (fun z : Nat × Fl => z.1 ≤ n.toNat + 1 ∧ z.2.ap = true) (fun z => [.fn F caps, ints (((List.range z.1).map Int.ofNat).filter P) z.2, I (n + 1), I z.1]) (fun _ => H) (fun z => n.toNat + 1 - z.1) (0, .full) ⟨Nat.zero_le _, rfl⟩ rfl rfl ?_
  intro ⟨i, f⟩ ⟨hi, hf⟩
  dsimp only at hi hf ⊢
  repeat (first | (with_reducible first | refine Ju.go ?_ | (refine Hd.go ?_; intro K Q hK hQ; simp only [List.getD_cons_succ, List.getD_cons_zero, nod_imm, Try.underlying3, e_lss, e_cond, decide_eq_true_eq]; subst hK hQ) | refine Jr.go ?_) | refine sd ?_)
  by_cases hlt : i < n.toNat + 1
  · have d : (i : Int) < n + 1 := by omega
    have hs := fil_snoc P i
    have hl := fil_len P i
    repeat (first | (with_reducible first | refine Ju.go ?_ | (refine Hd.go ?_; intro K Q hK hQ; simp only [d, if_true, List.getD_cons_zero, nod_fn, List.getD_cons_succ, nod_imm, e_callEG]; subst hK hQ) | refine Jr.go ?_) | refine sd ?_)
    refine call_of (hc i _ (by omega) (by omega)) ?_
    cases hr : P i
    · rw [hr] at hs
      repeat (first | (with_reducible first | refine Ju.go ?_ | (refine Hd.go ?_; intro K Q hK hQ; simp only [nod_tup, List.map_cons, nod2_imm, List.map_nil, e_x20, e_x21, List.getD_cons_zero, List.getD_cons_succ, nod_imm, e_cond, Bool.false_eq_true, if_false, Try.underlying3, e_add]; subst hK hQ) | refine Jr.go ?_) | refine sd ?_)
      exact ⟨(i + 1, f), ⟨by dsimp only; omega, hf⟩, by dsimp only; rw [hs]; simp; rfl, rfl, by dsimp only; omega⟩
    · rw [hr] at hs
      repeat (first | (with_reducible first | refine Ju.go ?_ | (refine Hd.go ?_; intro K Q hK hQ; simp only [nod_tup, List.map_cons, nod2_imm, List.map_nil, e_x20, e_x21, List.getD_cons_zero, List.getD_cons_succ, nod_imm, e_cond, if_true, bs1, nod_ints, nd_full, e_app, hf, true_and, Try.underlying3, e_add]; subst hK hQ) | refine Jr.go ?_) | refine sd ?_)
      exact ⟨(i + 1, .own), ⟨by dsimp only; omega, rfl⟩, by dsimp only; rw [hs]; rfl, rfl, by dsimp only; omega⟩
  · have d : ¬ (i : Int) < n + 1 := by omega
    obtain rfl : i = n.toNat + 1 := by omega
    repeat (first | (with_reducible first | refine Ju.go ?_ | (refine Hd.go ?_; intro K Q hK hQ; simp only [d, if_false]; subst hK hQ) | refine Jr.go ?_) | refine sd ?_)
    have : (((List.range (n.toNat + 1)).map Int.ofNat).filter P) = fil P n := rfl
    rw [this]
    cases f
    · exact end1 (.keep _ (bel_ints _ _ _))
    · exact end1 (.keep _ (bel_ints _ _ _))
    · exact end1 (.full _ (bel_ints _ _ _))
end Go.Proofs.Ytgodfjbmblghnaa


set_option linter.unusedVariables false
set_option linter.unusedSimpArgs false
set_option linter.unnecessarySimpa false
set_option maxRecDepth 20000
set_option maxHeartbeats 2000000
namespace Go.Proofs.Ytgodfjbmblghnaa
open Go Go.Ab Go.Proofs
attribute [local congr] g_bin g_nilS g_nilP g_un g_ext g_bx g_fa g_ld g_st g_ix g_ixA g_slc g_mk g_bs g_bd g_nc g_cv g_len g_lenT g_app g_appB g_cpy g_mm g_call g_callG g_calm g_calmG g_range g_res g_pick g_cond g_loop g_Jv g_eqS g_eqP g_fd g_ixT g_ta g_lkp g_upd g_mkM g_appS g_inv g_callE g_callEG g_invE g_zr g_wr
def usF : Nat → Sy → Int → Int → Int → Int → Bool
  | 0, _, _, _, _, _ => false
  | f + 1, s, n, t, u, r => (decide (t = u) && decide (ruI (s.se.getD t.toNat []) n = r)) || (ruOf s n t).p.any fun p => (decide (p.k = 3) && usF f s (n.tdiv (ruOf s n t).d) p.s u r) || (decide (p.k = 4) && decide (n.tmod (ruOf s n t).d ≠ 0) && usF f s (n.tmod (ruOf s n t).d) p.s u r)
theorem any_hit {α : Type} (l : List α) (d : α) (p : α → Bool) {i : Nat} (h : i < l.length) (hp : p (l.getD i d) = true) : l.any p = true := List.any_eq_true.2 ⟨_, getD_memA l d h, hp⟩
theorem any_take {α : Type} (l : List α) (d : α) (p : α → Bool) {i : Nat} (h : i < l.length) : (l.take (i + 1)).any p = ((l.take i).any p || p (l.getD i d)) := by rw [take_snocA l d h, any_snoc]
theorem c65 (s : Sy) (sm : Sm s) (hok : okSy s = true) (u r : Int) : ∀ (f : Nat) (n t : Int) (H : Hp), n.toNat < f → 0 ≤ n → n ≤ 1000000000000 → 0 ≤ t → t < s.se.length → Ret Try.prog 65 [syV s, I t, I n, I u, I r] H (B (usF f s n t u r)) H := by
  have h2 := sm.se
  intro f
  induction f with
  | zero => intro n t H hf; omega
  | succ f ih =>
    intro n t H hf hn hn2 ht0 ht1
    have ru := ruOk sm hok hn ht0 ht1
    have hb0 := ru_b0 hok hn ht0 ht1
    have a1 := ru.i0
    have a2 := ru.i1
    have a5 := ru.pl
    have hpk := ru.p
    have hdv := fun h => ru_div ru hn h
    have eU : usF (f + 1) s n t u r = ((decide (t = u) && decide (ruI (s.se.getD t.toNat []) n = r)) || (ruOf s n t).p.any fun p => (decide (p.k = 3) && usF f s (n.tdiv (ruOf s n t).d) p.s u r) || (decide (p.k = 4) && decide (n.tmod (ruOf s n t).d ≠ 0) && usF f s (n.tmod (ruOf s n t).d) p.s u r)) := rfl
    rw [eU]
    have eR : (s.se.getD t.toNat []).getD (ruI (s.se.getD t.toNat []) n).toNat default = ruOf s n t := rfl
    refine mk65 _ _ _ _ _ rfl (Nat.le_refl _) (.inl rfl) ?_
    simp only [vc65, real]
    repeat (first | (with_reducible first | refine Ju.go ?_ | (refine Hd.go ?_; intro K Q hK hQ; simp only [nod_agg, List.map_cons, nodL_imm, nodL_arr, nd_no, List.map_nil, e_bxI, okE_agg, lv_cons, List.length_nil, Nat.zero_add, Nat.reduceAdd, all_c, ck_I, ck_arr, all_n, Bool.and_self, and_true, true_and, nod_cptr, e_fac, Nat.reduceLeDiff, List.getD_cons_succ, List.getD_cons_zero, e_ldcV, nod_arr, nod_imm, ix_se, ht0, ht1]; subst hK hQ) | refine Jr.go ?_) | refine sd ?_)
    refine call_of (c26 _ n _ ru.ne hb0 (by have := ru.len; omega)) ?_
    clear ru hb0 eU
    cases hc : (decide (t = u) && decide (ruI (s.se.getD t.toNat []) n = r))
    · repeat (first | (with_reducible first | refine Ju.go ?_ | (refine Hd.go ?_; intro K Q hK hQ; simp only [nod_imm, Try.underlying3, e_eql, e_gT, j_and', hc, j_one, List.getD_cons_succ, List.getD_cons_zero, e_cond, Bool.false_eq_true, if_false, nod_cptr, e_fac, Nat.reduceAdd, lv_cons, List.length_nil, Nat.zero_add, Nat.reduceLeDiff, true_and, e_ldcV, nod_arr, nd_no, ix_se, ht0, ht1, ix_nu, a1, a2, eR, e_ldcA, nod_agg, List.map_cons, nodL_imm, nodL_arr, List.map_nil, e_bxI, okE_agg, all_c, ck_I, ck_arr, all_n, Bool.and_self, and_true]; subst hK hQ) | refine Jr.go ?_) | refine sd ?_)
      clear eR hc
      generalize ruOf s n t = q at *
      rw [Bool.false_or]
      generalize hg : (fun p : Pi => (decide (p.k = 3) && usF f s (n.tdiv q.d) p.s u r) || (decide (p.k = 4) && decide (n.tmod q.d ≠ 0) && usF f s (n.tmod q.d) p.s u r)) = g
      have hgp : ∀ p, g p = ((decide (p.k = 3) && usF f s (n.tdiv q.d) p.s u r) || (decide (p.k = 4) && decide (n.tmod q.d ≠ 0) && usF f s (n.tmod q.d) p.s u r)) := fun p => by rw [← hg]
      clear hg
      refine loop_of (fun i : Nat => i ≤ q.p.length ∧ (q.p.take i).any g = false) (fun i => [I n, I u, I r, .cptr (syV s), .cptr (nuV q), I i]) (fun _ => H) (fun i => q.p.length - i) 0 ⟨Nat.zero_le _, rfl⟩ rfl rfl ?_
      intro i ⟨hi, hp⟩
      repeat (first | (with_reducible first | refine Ju.go ?_ | (refine Hd.go ?_; intro K Q hK hQ; simp only [List.getD_cons_succ, List.getD_cons_zero, nod_cptr, e_fac, Nat.reduceAdd, lv_cons, List.length_nil, Nat.zero_add, Nat.reduceLeDiff, true_and, e_ldcV, nod_arr, nd_no, e_lenA, List.length_map, nod_imm, Try.underlying3, e_lss, e_cond, decide_eq_true_eq]; subst hK hQ) | refine Jr.go ?_) | refine sd ?_)
      by_cases hlt : i < q.p.length
      · have d : (i : Int) < q.p.length := by omega
        have hm := hpk _ (getD_memA q.p default hlt)
        have hh := any_hit q.p default g hlt
        have hn' := any_take q.p default g hlt
        have hgp := hgp (q.p.getD i default)
        repeat (first | (with_reducible first | refine Ju.go ?_ | (refine Hd.go ?_; intro K Q hK hQ; simp only [d, if_true, List.getD_cons_succ, List.getD_cons_zero, nod_cptr, e_fac, Nat.reduceAdd, lv_cons, List.length_nil, Nat.zero_add, Nat.reduceLeDiff, true_and, e_ldcV, nod_arr, nd_no, nod_imm, ix_pi, Int.toNat_natCast, e_ldcA, nod_agg, List.map_cons, nodL_imm, List.map_nil, e_bxI, okE_agg, all_c, ck_I, all_n, Bool.and_self, and_true, e_ldc, Try.underlying57, e_eql, Try.underlying3, e_quo, ne_eq, nodL_arr, e_gT, j_tl, decide_eq_true_eq, j_side]; subst hK hQ) | refine Jr.go ?_) | refine sd ?_)
        generalize q.p.getD i default = p at *
        obtain ⟨hk, hpt, hps, hdz⟩ := okPi_k hm
        by_cases k3 : p.k = 3
        · have z : q.d ≠ 0 := fun h => by have := hdz (by omega); rw [h] at this; cases this
          obtain ⟨d1, d2, d3, d4, d5⟩ := hdv z
          obtain ⟨s0, s1⟩ := hps (.inl k3)
          have r1 : R64 (n.tdiv q.d) := by unfold R64; omega
          rw [decide_eq_true k3, Bool.true_and, decide_eq_false (show ¬ p.k = 4 by omega), Bool.false_and, Bool.false_and, Bool.or_false] at hgp
          have k4 : ¬ p.k = 4 := by omega
          repeat (first | (with_reducible first | refine Ju.go ?_ | (refine Hd.go ?_; intro K Q hK hQ; simp only [k3, decide_true, cond_true]; subst hK hQ) | refine Jr.go ?_) | refine sd ?_)
          refine call_ofD (ih (n.tdiv q.d) p.s _ (by omega) (by omega) (by omega) s0 s1) ?_
          rw [← hgp]
          cases hq : g p
          · repeat (first | (with_reducible first | refine Ju.go ?_ | (refine Hd.go ?_; intro K Q hK hQ; simp only [nod_imm, k3, List.getD_cons_zero, List.getD_cons_succ, e_cond, Bool.false_eq_true, if_false, nod_cptr, e_fac, Nat.zero_add, lv_cons, List.length_nil, Nat.reduceAdd, Nat.reduceLeDiff, true_and, e_ldc, Try.underlying57, e_eql, Int.reduceEq, decide_false, Try.underlying3, e_rem, ne_eq, e_gtr, e_gT, cond_false, j_one, e_ldcA, nod_agg, List.map_cons, nodL_imm, nodL_arr, nd_no, List.map_nil, e_add]; subst hK hQ) | refine Jr.go ?_) | refine sd ?_)
            exact ⟨i + 1, ⟨by omega, by rw [hn', hp, hq]; rfl⟩, rfl, rfl, by omega⟩
          · repeat (first | (with_reducible first | refine Ju.go ?_ | (refine Hd.go ?_; intro K Q hK hQ; simp only [nod_imm, List.getD_cons_zero, List.getD_cons_succ, e_cond, if_true]; subst hK hQ) | refine Jr.go ?_) | refine sd ?_)
            rw [hh hq]
            exact end1 (fzI _)
        · rw [decide_eq_false k3, Bool.false_and, Bool.false_or] at hgp
          by_cases k4 : p.k = 4
          · have z : q.d ≠ 0 := fun h => by have := hdz (by omega); rw [h] at this; cases this
            obtain ⟨d1, d2, d3, d4, d5⟩ := hdv z
            obtain ⟨s0, s1⟩ := hps (.inr k4)
            rw [decide_eq_true k4, Bool.true_and] at hgp
            by_cases he : n.tmod q.d = 0
            · rw [decide_eq_false (fun h => h he), Bool.false_and] at hgp
              have he' : ¬ (0 : Int) < n.tmod q.d := by omega
              repeat (first | (with_reducible first | refine Ju.go ?_ | (refine Hd.go ?_; intro K Q hK hQ; simp only [k4, Int.reduceEq, decide_false, cond_false, j_one, List.getD_cons_zero, List.getD_cons_succ, nod_imm, e_cond, Bool.false_eq_true, if_false, nod_cptr, e_fac, Nat.zero_add, lv_cons, List.length_nil, Nat.reduceAdd, Nat.reduceLeDiff, true_and, e_ldc, Try.underlying57, e_eql, decide_true, Try.underlying3, e_rem, ne_eq, z, not_false_eq_true, e_gtr, he', e_gT, cond_true, e_ldcA, nod_agg, List.map_cons, nodL_imm, nodL_arr, nd_no, List.map_nil, e_add]; subst hK hQ) | refine Jr.go ?_) | refine sd ?_)
              exact ⟨i + 1, ⟨by omega, by rw [hn', hp, hgp]; rfl⟩, rfl, rfl, by omega⟩
            · rw [decide_eq_true he, Bool.true_and] at hgp
              have he' : (0 : Int) < n.tmod q.d := by omega
              repeat (first | (with_reducible first | refine Ju.go ?_ | (refine Hd.go ?_; intro K Q hK hQ; simp only [k4, Int.reduceEq, decide_false, cond_false, j_one, List.getD_cons_zero, List.getD_cons_succ, nod_imm, e_cond, Bool.false_eq_true, if_false, nod_cptr, e_fac, Nat.zero_add, lv_cons, List.length_nil, Nat.reduceAdd, Nat.reduceLeDiff, true_and, e_ldc, Try.underlying57, e_eql, decide_true, Try.underlying3, e_rem, ne_eq, z, not_false_eq_true, e_gtr, he', e_gT, cond_true, e_ldcA, nod_agg, List.map_cons, nodL_imm, nodL_arr, nd_no, List.map_nil]; subst hK hQ) | refine Jr.go ?_) | refine sd ?_)
              refine call_ofD (ih (n.tmod q.d) p.s _ (by omega) (by omega) (by omega) s0 s1) ?_
              rw [← hgp]
              cases hq : g p
              · repeat (first | (with_reducible first | refine Ju.go ?_ | (refine Hd.go ?_; intro K Q hK hQ; simp only [nod_imm, List.getD_cons_zero, List.getD_cons_succ, e_cond, Bool.false_eq_true, if_false, Try.underlying3, e_add]; subst hK hQ) | refine Jr.go ?_) | refine sd ?_)
                exact ⟨i + 1, ⟨by omega, by rw [hn', hp, hq]; rfl⟩, rfl, rfl, by omega⟩
              · repeat (first | (with_reducible first | refine Ju.go ?_ | (refine Hd.go ?_; intro K Q hK hQ; simp only [nod_imm, List.getD_cons_zero, List.getD_cons_succ, e_cond, if_true]; subst hK hQ) | refine Jr.go ?_) | refine sd ?_)
                rw [hh hq]
                exact end1 (fzI _)
          · rw [decide_eq_false k4, Bool.false_and, Bool.false_and] at hgp
            repeat (first | (with_reducible first | refine Ju.go ?_ | (refine Hd.go ?_; intro K Q hK hQ; simp only [k3, decide_false, cond_false, j_one, List.getD_cons_zero, List.getD_cons_succ, nod_imm, e_cond, Bool.false_eq_true, if_false, nod_cptr, e_fac, Nat.zero_add, lv_cons, List.length_nil, Nat.reduceAdd, Nat.reduceLeDiff, true_and, e_ldc, Try.underlying57, e_eql, k4, Try.underlying3, e_rem, ne_eq, e_gtr, e_gT, e_ldcA, nod_agg, List.map_cons, nodL_imm, nodL_arr, nd_no, List.map_nil, e_add]; subst hK hQ) | refine Jr.go ?_) | refine sd ?_)
            exact ⟨i + 1, ⟨by omega, by rw [hn', hp, hgp]; rfl⟩, rfl, rfl, by omega⟩
      · have d : ¬ (i : Int) < q.p.length := by omega
        repeat (first | (with_reducible first | refine Ju.go ?_ | (refine Hd.go ?_; intro K Q hK hQ; simp only [d, if_false]; subst hK hQ) | refine Jr.go ?_) | refine sd ?_)
        rw [List.take_of_length_le (by omega)] at hp
        rw [hp]
        exact end1 (fzI _)
    · repeat (first | (with_reducible first | refine Ju.go ?_ | (refine Hd.go ?_; intro K Q hK hQ; simp only [nod_imm, Try.underlying3, e_eql, e_gT, j_and', hc, j_one, List.getD_cons_succ, List.getD_cons_zero, e_cond, if_true]; subst hK hQ) | refine Jr.go ?_) | refine sd ?_)
      rw [Bool.true_or]
      exact end1 (fzI _)
theorem c64 (s : Sy) (sm : Sm s) (hok : okSy s = true) (u r : Int) : ∀ (f : Nat) (n t g k : Int) (H : Hp), n.toNat < f → 0 ≤ n → n ≤ 1000000000000 → 0 ≤ t → t < s.se.length → Ret Try.prog 64 [syV s, asV n t g k, I u, I r] H (B (usF f s n t u r)) H := by
  have h2 := sm.se
  intro f
  induction f with
  | zero => intro n t g k H hf; omega
  | succ f ih =>
    intro n t g k H hf hn hn2 ht0 ht1
    have ru := ruOk sm hok hn ht0 ht1
    have a1 := ru.i0
    have a2 := ru.i1
    have a5 := ru.pl
    have hpk := ru.p
    have hdv := fun h => ru_div ru hn h
    have eU : usF (f + 1) s n t u r = ((decide (t = u) && decide (ruI (s.se.getD t.toNat []) n = r)) || (ruOf s n t).p.any fun p => (decide (p.k = 3) && usF f s (n.tdiv (ruOf s n t).d) p.s u r) || (decide (p.k = 4) && decide (n.tmod (ruOf s n t).d ≠ 0) && usF f s (n.tmod (ruOf s n t).d) p.s u r)) := rfl
    rw [eU]
    have eR : (s.se.getD t.toNat []).getD (ruI (s.se.getD t.toNat []) n).toNat default = ruOf s n t := rfl
    refine mk64 _ _ _ _ rfl (Nat.le_refl _) (.inl rfl) ?_
    simp only [vc64, real]
    repeat (first | (with_reducible first | refine Ju.go ?_ | (refine Hd.go ?_; intro K Q hK hQ; simp only [nod_agg, List.map_cons, nodL_imm, nodL_arr, nd_no, List.map_nil, e_bxI, okE_agg, lv_cons, List.length_nil, Nat.zero_add, Nat.reduceAdd, all_c, ck_I, ck_arr, all_n, Bool.and_self, and_true, true_and, nod_cptr, e_ldcA, e_fac, Nat.reduceLeDiff, List.getD_cons_succ, List.getD_cons_zero, e_ldc, nod_imm]; subst hK hQ) | refine Jr.go ?_) | refine sd ?_)
    refine call_of (c77 s t n _ ht0 ht1 ru.ne ru.len) ?_
    clear ru eU
    cases hc : (decide (t = u) && decide (ruI (s.se.getD t.toNat []) n = r))
    · repeat (first | (with_reducible first | refine Ju.go ?_ | (refine Hd.go ?_; intro K Q hK hQ; simp only [nod_cptr, e_fac, Nat.reduceAdd, lv_cons, List.length_nil, Nat.zero_add, Nat.reduceLeDiff, List.getD_cons_succ, List.getD_cons_zero, true_and, e_ldc, nod_imm, Try.underlying3, e_eql, e_gT, j_and', hc, j_one, e_cond, Bool.false_eq_true, if_false, e_facA, dr_0, tk_s, tk_0, e_ldcV, nod_arr, nd_no, ix_se, ht0, ht1, ix_nu, a1, a2, eR, e_ldcA, nod_agg, List.map_cons, nodL_imm, nodL_arr, List.map_nil, e_bxI, okE_agg, all_c, ck_I, ck_arr, all_n, Bool.and_self, and_true, e_lenA, List.length_map]; subst hK hQ) | refine Jr.go ?_) | refine sd ?_)
      clear eR hc
      generalize ruOf s n t = q at *
      rw [Bool.false_or]
      generalize hg : (fun p : Pi => (decide (p.k = 3) && usF f s (n.tdiv q.d) p.s u r) || (decide (p.k = 4) && decide (n.tmod q.d ≠ 0) && usF f s (n.tmod q.d) p.s u r)) = g'
      have hgp : ∀ p, g' p = ((decide (p.k = 3) && usF f s (n.tdiv q.d) p.s u r) || (decide (p.k = 4) && decide (n.tmod q.d ≠ 0) && usF f s (n.tmod q.d) p.s u r)) := fun p => by rw [← hg]
      clear hg
      refine loop_of (fun i : Nat => i ≤ q.p.length ∧ (q.p.take i).any g' = false) (fun i => [I u, I r, .cptr (syV s), .cptr (asV n t g k), .cptr (nuV q), .arr (q.p.map piV) .no, I q.p.length, I i]) (fun _ => H) (fun i => q.p.length - i) 0 ⟨Nat.zero_le _, rfl⟩ rfl rfl ?_
      intro i ⟨hi, hp⟩
      repeat (first | (with_reducible first | refine Ju.go ?_ | (refine Hd.go ?_; intro K Q hK hQ; simp only [List.getD_cons_succ, List.getD_cons_zero, nod_imm, Try.underlying3, e_lss, e_cond, decide_eq_true_eq]; subst hK hQ) | refine Jr.go ?_) | refine sd ?_)
      by_cases hlt : i < q.p.length
      · have d : (i : Int) < q.p.length := by omega
        have hm := hpk _ (getD_memA q.p default hlt)
        have hh := any_hit q.p default g' hlt
        have hn' := any_take q.p default g' hlt
        have hgp := hgp (q.p.getD i default)
        repeat (first | (with_reducible first | refine Ju.go ?_ | (refine Hd.go ?_; intro K Q hK hQ; simp only [d, if_true, List.getD_cons_succ, List.getD_cons_zero, nod_arr, nd_no, nod_imm, ix_pi, Int.toNat_natCast, true_and, nod_cptr, e_ldcA, lv_cons, List.length_nil, Nat.zero_add, Nat.reduceAdd, nod_agg, List.map_cons, nodL_imm, List.map_nil, e_bxI, okE_agg, all_c, ck_I, all_n, Bool.and_self, and_true, e_fac, Nat.reduceLeDiff, e_ldc, Try.underlying57, e_eql, Try.underlying3, nod_nod, e_bd1, e_bd0, okE_I, cl_imm, e_quo, ne_eq, spl_0, spl_n, spl_s, own0_imm, nodL_arr, e_gT, j_tl, decide_eq_true_eq, j_side]; subst hK hQ) | refine Jr.go ?_) | refine sd ?_)
        generalize q.p.getD i default = p at *
        obtain ⟨hk, hpt, hps, hdz⟩ := okPi_k hm
        by_cases k3 : p.k = 3
        · have z : q.d ≠ 0 := fun h => by have := hdz (by omega); rw [h] at this; cases this
          obtain ⟨d1, d2, d3, d4, d5⟩ := hdv z
          obtain ⟨s0, s1⟩ := hps (.inl k3)
          have r1 : R64 (n.tdiv q.d) := by unfold R64; omega
          rw [decide_eq_true k3, Bool.true_and, decide_eq_false (show ¬ p.k = 4 by omega), Bool.false_and, Bool.false_and, Bool.or_false] at hgp
          have k4 : ¬ p.k = 4 := by omega
          repeat (first | (with_reducible first | refine Ju.go ?_ | (refine Hd.go ?_; intro K Q hK hQ; simp only [k3, decide_true, cond_true]; subst hK hQ) | refine Jr.go ?_) | refine sd ?_)
          refine call_ofD (ih (n.tdiv q.d) p.s _ _ _ (by omega) (by omega) (by omega) s0 s1) ?_
          rw [← hgp]
          cases hq : g' p
          · repeat (first | (with_reducible first | refine Ju.go ?_ | (refine Hd.go ?_; intro K Q hK hQ; simp only [nod_imm, List.getD_cons_zero, List.getD_cons_succ, k3, e_cond, Bool.false_eq_true, if_false, nod_cptr, e_fac, Nat.zero_add, lv_cons, List.length_nil, Nat.reduceAdd, Nat.reduceLeDiff, true_and, e_ldc, Try.underlying57, e_eql, Int.reduceEq, decide_false, Try.underlying3, e_rem, ne_eq, e_neq, e_gT, cond_false, j_one, nod_nod, e_bd1, e_bd0, okE_I, cl_imm, spl_0, spl_n, spl_s, own0_imm, nod_agg, List.map_cons, nodL_imm, List.map_nil, e_ldcA, nodL_arr, nd_no, e_add]; subst hK hQ) | refine Jr.go ?_) | refine sd ?_)
            exact ⟨i + 1, ⟨by omega, by rw [hn', hp, hq]; rfl⟩, rfl, rfl, by omega⟩
          · repeat (first | (with_reducible first | refine Ju.go ?_ | (refine Hd.go ?_; intro K Q hK hQ; simp only [nod_imm, List.getD_cons_zero, List.getD_cons_succ, e_cond, if_true]; subst hK hQ) | refine Jr.go ?_) | refine sd ?_)
            rw [hh hq]
            exact end1 (fzI _)
        · rw [decide_eq_false k3, Bool.false_and, Bool.false_or] at hgp
          by_cases k4 : p.k = 4
          · have z : q.d ≠ 0 := fun h => by have := hdz (by omega); rw [h] at this; cases this
            obtain ⟨d1, d2, d3, d4, d5⟩ := hdv z
            obtain ⟨s0, s1⟩ := hps (.inr k4)
            rw [decide_eq_true k4, Bool.true_and] at hgp
            by_cases he : n.tmod q.d = 0
            · rw [decide_eq_false (fun h => h he), Bool.false_and] at hgp
              repeat (first | (with_reducible first | refine Ju.go ?_ | (refine Hd.go ?_; intro K Q hK hQ; simp only [k4, Int.reduceEq, decide_false, cond_false, j_one, List.getD_cons_zero, List.getD_cons_succ, nod_imm, e_cond, Bool.false_eq_true, if_false, nod_cptr, e_fac, Nat.zero_add, lv_cons, List.length_nil, Nat.reduceAdd, Nat.reduceLeDiff, true_and, e_ldc, Try.underlying57, e_eql, decide_true, Try.underlying3, e_rem, ne_eq, z, not_false_eq_true, he, e_neq, Bool.not_true, e_gT, cond_true, nod_nod, e_bd1, e_bd0, okE_I, cl_imm, spl_0, spl_n, spl_s, own0_imm, nod_agg, List.map_cons, nodL_imm, List.map_nil, e_ldcA, nodL_arr, nd_no, e_add]; subst hK hQ) | refine Jr.go ?_) | refine sd ?_)
              exact ⟨i + 1, ⟨by omega, by rw [hn', hp, hgp]; rfl⟩, rfl, rfl, by omega⟩
            · rw [decide_eq_true he, Bool.true_and] at hgp
              repeat (first | (with_reducible first | refine Ju.go ?_ | (refine Hd.go ?_; intro K Q hK hQ; simp only [k4, Int.reduceEq, decide_false, cond_false, j_one, List.getD_cons_zero, List.getD_cons_succ, nod_imm, e_cond, Bool.false_eq_true, if_false, nod_cptr, e_fac, Nat.zero_add, lv_cons, List.length_nil, Nat.reduceAdd, Nat.reduceLeDiff, true_and, e_ldc, Try.underlying57, e_eql, decide_true, Try.underlying3, e_rem, ne_eq, z, not_false_eq_true, e_neq, he, Bool.not_false, e_gT, cond_true, nod_nod, e_bd1, e_bd0, okE_I, cl_imm, spl_0, spl_n, spl_s, own0_imm, nod_agg, List.map_cons, nodL_imm, List.map_nil, e_ldcA, nodL_arr, nd_no]; subst hK hQ) | refine Jr.go ?_) | refine sd ?_)
              refine call_ofD (ih (n.tmod q.d) p.s _ _ _ (by omega) (by omega) (by omega) s0 s1) ?_
              rw [← hgp]
              cases hq : g' p
              · repeat (first | (with_reducible first | refine Ju.go ?_ | (refine Hd.go ?_; intro K Q hK hQ; simp only [nod_imm, List.getD_cons_zero, List.getD_cons_succ, e_cond, Bool.false_eq_true, if_false, Try.underlying3, e_add]; subst hK hQ) | refine Jr.go ?_) | refine sd ?_)
                exact ⟨i + 1, ⟨by omega, by rw [hn', hp, hq]; rfl⟩, rfl, rfl, by omega⟩
              · repeat (first | (with_reducible first | refine Ju.go ?_ | (refine Hd.go ?_; intro K Q hK hQ; simp only [nod_imm, List.getD_cons_zero, List.getD_cons_succ, e_cond, if_true]; subst hK hQ) | refine Jr.go ?_) | refine sd ?_)
                rw [hh hq]
                exact end1 (fzI _)
          · rw [decide_eq_false k4, Bool.false_and, Bool.false_and] at hgp
            repeat (first | (with_reducible first | refine Ju.go ?_ | (refine Hd.go ?_; intro K Q hK hQ; simp only [k3, decide_false, cond_false, j_one, List.getD_cons_zero, List.getD_cons_succ, nod_imm, e_cond, Bool.false_eq_true, if_false, nod_cptr, e_fac, Nat.zero_add, lv_cons, List.length_nil, Nat.reduceAdd, Nat.reduceLeDiff, true_and, e_ldc, Try.underlying57, e_eql, k4, Try.underlying3, e_rem, ne_eq, e_neq, e_gT, nod_nod, e_bd1, e_bd0, okE_I, cl_imm, spl_0, spl_n, spl_s, own0_imm, nod_agg, List.map_cons, nodL_imm, List.map_nil, e_ldcA, nodL_arr, nd_no, e_add]; subst hK hQ) | refine Jr.go ?_) | refine sd ?_)
            exact ⟨i + 1, ⟨by omega, by rw [hn', hp, hgp]; rfl⟩, rfl, rfl, by omega⟩
      · have d : ¬ (i : Int) < q.p.length := by omega
        repeat (first | (with_reducible first | refine Ju.go ?_ | (refine Hd.go ?_; intro K Q hK hQ; simp only [d, if_false]; subst hK hQ) | refine Jr.go ?_) | refine sd ?_)
        rw [List.take_of_length_le (by omega)] at hp
        rw [hp]
        exact end1 (fzI _)
    · repeat (first | (with_reducible first | refine Ju.go ?_ | (refine Hd.go ?_; intro K Q hK hQ; simp only [nod_cptr, e_fac, Nat.reduceAdd, lv_cons, List.length_nil, Nat.zero_add, Nat.reduceLeDiff, List.getD_cons_succ, List.getD_cons_zero, true_and, e_ldc, nod_imm, Try.underlying3, e_eql, e_gT, j_and', hc, j_one, e_cond, if_true]; subst hK hQ) | refine Jr.go ?_) | refine sd ?_)
      rw [Bool.true_or]
      exact end1 (fzI _)
def isU (s : Sy) (t u r m : Int) : Bool := usF (m.toNat + 1) s m t u r
theorem c63 (s : Sy) (n t g k u r m : Int) (H : Hp) (sm : Sm s) (hok : okAsk s m t g k = true) : Ret Try.prog 63 [I m, .cptr (syV s), .cptr (asV n t g k), .cptr (I u), .cptr (I r)] H (.tup [I m, B (isU s t u r m)]) H := by
  obtain ⟨h1, h2, h3, h4, h5, h6, h7, h8, h9⟩ := okAsk_parts hok
  refine mk63 _ _ _ _ _ rfl (Nat.le_refl _) (.inl rfl) ?_
  simp only [vc63, real]
  repeat (first | (with_reducible first | refine Ju.go ?_ | (refine Hd.go ?_; intro K Q hK hQ; simp only [nod_cptr, e_ldcA, lv_cons, List.length_nil, Nat.zero_add, Nat.reduceAdd, true_and, nod_agg, List.map_cons, nodL_imm, nodL_arr, nd_no, List.map_nil, e_bd1, okE_agg, all_c, ck_I, ck_arr, all_n, Bool.and_self, and_true, Nat.reduceLeDiff, cl_agg, spl_0, spl_n, e_bd0, nod_imm]; subst hK hQ) | refine Jr.go ?_) | refine sd ?_)
  refine calm_of (fun H => c60 n t g k m H) ?_
  repeat (first | (with_reducible first | refine Ju.go ?_ | (refine Hd.go ?_; intro K Q hK hQ; simp only [nod_cptr, e_ldc, nod_agg, List.map_cons, nodL_imm, nodL_arr, nd_no, List.map_nil, nod_imm]; subst hK hQ) | refine Jr.go ?_) | refine sd ?_)
  refine call_ofD (c64 s sm h1 u r (m.toNat + 1) m t g k _ (by omega) h2 (by omega) h5 h6) ?_
  repeat (first | (with_reducible first | refine Ju.go ?_ | (refine Hd.go ?_; intro K Q hK hQ; simp only [Try.underlying3, Try.underlying4, Try.underlying5, Try.underlying9, Try.underlying29, Try.underlying57, Try.underlying55, j_one, j_side, j_tl, j_fl, nod_nod, nod_imm, nod_ints, nd_no, nd_own, nd_full, nd_fO, oF_ap, oF_succ, nod_sl, nod_ptr, nod_cptr, nod_fn, nod_junk, nodL_imm, nod_agg, nod_tup, nod2_imm, nod2_agg, cl_imm, cl_ints, cl_agg, e_add, e_sub, e_mul, e_quo, e_rem, e_eql, e_neq, e_lss, e_leq, e_gtr, e_geq, e_beq, e_bne, e_neg, e_not, e_pick, e_cond, e_gT, e_gF, e_len, e_lenA, e_lenS, e_ix, e_ixS, e_ldc, e_ldci, e_fa, rep_cl, rep_I, e_bx, okE_I, okE_B, okE_E8, okE_ints, stV_imm, stV_ints, j_and', j_or', List.getD_cons_zero, List.getD_cons_succ, List.map_cons, List.map_nil, decide_eq_true_eq, Int.toNat_natCast, Nat.mul_one, Nat.zero_add, true_and, and_true, List.length_map, Bool.not_eq_true', decide_eq_false_iff_not, nod_lists, e_lenL, e_ixL, okE_lists, bs1, bs1L, bs2L, e_app, e_appL, e_app0, e_app0L, e_slcLo, e_slcHi, e_slcLH, e_slcHH, e_slcLHH, e_callG, e_callY, e_calmG, e_slS0, e_slSLo, e_slSHi, e_slSLH, e_slSHH, e_slSLHH, e_max2, e_min2, e_max3, e_x20, e_x21, e_x30, e_x31, e_x32, nod2_ints, nod2_lists, rep_fl, bs0, e_nilE, if_true, if_false, cond_true, cond_false, decide_true, decide_false, eq_self, Bool.false_eq_true, false_implies, true_implies, ap_own, ap_full, e_slcLoL, e_slcHiL, e_slcLHL, hp_assoc, hp_cons, hp_nil, hp_len, hp_len_cons, hp_len_nil, lv_cons, lv_nil, vs_0, vs_s, spl_s, spl_0, spl_n, dr_s, dr_0, tk_s, tk_0, e_bxI, e_fac, e_facA, e_ldcA, e_ldcL, e_ldcF, okE_agg, ck_I, ck_B, ck_ints, ck_lists, ck_arr, ck_ptr, ck_cptr, ck_fn, all_c, all_n, stV_agg, stV_lists, stV_arr, stV_ptr, stV_cptr, stV_fn, nodL_ints, nodL_lists, nodL_ptr, nodL_cptr, nodL_fn, nodL_arr0, cl_arr, cl_ptr, cl_cptr, cl_fn, cl_lists, okE_arr, okE_fn, okE_ptr, okE_cptr, e_bd0, e_bd1, e_wr, Nat.reduceAdd, Nat.reduceLeDiff, Nat.reduceEqDiff, Nat.add_zero, Bool.and_self, Bool.true_and, Bool.and_true, e_lc0, e_lA0, e_lM0, e_sc0, e_rc0, e_rA0, e_lI0, e_sI0, e_cI0, e_lc1, e_lA1, e_lM1, e_sc1, e_rc1, e_rA1, e_lI1, e_sI1, e_cI1, e_lc2, e_lA2, e_lM2, e_sc2, e_rc2, e_rA2, e_lI2, e_sI2, e_cI2, e_lc3, e_lA3, e_lM3, e_sc3, e_rc3, e_rA3, e_lI3, e_sI3, e_cI3, e_lc4, e_lA4, e_lM4, e_sc4, e_rc4, e_rA4, e_lI4, e_sI4, e_cI4, e_lc5, e_lA5, e_lM5, e_sc5, e_rc5, e_rA5, e_lI5, e_sI5, e_cI5, own0_arr, own0_ints, own0_lists, own0_imm, own0_ptr, own0_cptr, own0_fn, own0_agg, e_appB, e_appB0, ck_sl, own0_sl, stV_sl, nodL_sl, cl_sl, okE_sl, e_mkM, e_mkI, e_mkIm, e_callB, nod_bfn, nod_ifc, nod_map, nodL_ifc, nodL_bfn, nodL_map, cl_ifc, cl_bfn, ck_ifc, ck_bfn, ck_map, stV_ifc, okE_ifc, okE_bfn, nod_arr, nodL_arr, e_addU, e_mulU, e_shrK, e_shlK, e_andK, e_cv64, e_cv32, e_callEG, e_callEY, e_callEB, e_zr, e_nilSl, e_ncP, e_ncC, e_npnP, e_npeP, e_npnC, e_npeC, e_npnN, e_npeN, e_ixAP, e_ldcP, e_ldcS, e_ldcV, e_ldcT, okE_nilP, ck_nilP, okE_nilI, ck_nilI, okE_str, ck_str, e_tlen, e_tix, e_teq, e_tne, e_tadd, e_tb, e_u8lss, e_u8gtr, noV_full, nod_arr, List.length_map, reduceIte, Int.reduceEq, Int.reduceNeg, ne_eq, not_true_eq_false, not_false_eq_true, Bool.not_true, Bool.not_false, Bool.true_or, Bool.or_true, Bool.false_or, Bool.or_false, Bool.and_true, Bool.and_false, Bool.false_and, Bool.not_not, Bool.or_self, List.length_nil, Int.ofNat_zero, Int.cast_ofNat_Int, Int.natCast_zero, beq_self_eq_true, Bool.true_eq_false]; subst hK hQ) | refine Jr.go ?_) | refine sd ?_)
  exact end2 rfl rfl (fzI _) (fzI _)
def inS (s : Sy) (u r : Int) : Bool := inB u 0 (s.se.length - 1) && inB r 0 ((s.se.getD u.toNat []).length - 1)
def usE (s : Sy) (n t g k u r : Int) : Int := if scE [s] n t g k = 2 ∨ inS s u r = false then 2 else scE [s] n t g k
def usR (s : Sy) (n t g k u r : Int) : List Int := if usE s n t g k u r = 0 then fil (isU s t u r) n else []
theorem c32 (s : Sy) (n t g k u r : Int) (H : Hp) (sm : Sm s) : Ret Try.prog 32 [syV s, asV n t g k, I u, I r] H (.tup [ints (usR s n t g k u r) .no, I (usE s n t g k u r)]) H := by
  have hse := sm.se
  have ef : retF (.tup [ints [] .no, I 2]) H [.arr [] .full, I 2] H := end2 rfl rfl (.full [] (bel_ints _ [] .full)) (fzI _)
  refine mk32 _ _ _ _ rfl (Nat.le_refl _) (.inl rfl) ?_
  simp only [vc32, real]
  repeat (first | (with_reducible first | refine Ju.go ?_ | (refine Hd.go ?_; intro K Q hK hQ; simp only [nod_agg, List.map_cons, nodL_imm, nodL_arr, nd_no, List.map_nil, e_bxI, okE_agg, lv_cons, List.length_nil, Nat.zero_add, Nat.reduceAdd, all_c, ck_I, ck_arr, all_n, Bool.and_self, and_true, true_and, nod_imm, okE_I, nod_cptr, e_ldcA, bs1Y, nod_arr, nd_full]; subst hK hQ) | refine Jr.go ?_) | refine sd ?_)
  refine call_of (c57 [s] n t g k _ (fun x hx => by simp only [List.mem_singleton] at hx; subst hx; exact sm) (by simp)) ?_
  by_cases e2 : scE [s] n t g k = 2
  · have e : usE s n t g k u r = 2 := if_pos (.inl e2)
    have l : usR s n t g k u r = [] := if_neg (by rw [e]; decide)
    rw [e, l, e2]
    repeat (first | (with_reducible first | refine Ju.go ?_ | (refine Hd.go ?_; intro K Q hK hQ; simp only [nod_imm, Try.underlying29, e_eql, decide_true, List.getD_cons_succ, List.getD_cons_zero, e_cond, if_true]; subst hK hQ) | refine Jr.go ?_) | refine sd ?_)
    exact ef
  · have hE : usE s n t g k u r = if inS s u r = false then 2 else scE [s] n t g k := by
      unfold usE
      by_cases h : inS s u r = false
      · rw [if_pos (.inr h), if_pos h]
      · rw [if_neg (fun h' => by rcases h' with h' | h'; exact e2 h'; exact h h'), if_neg h]
    repeat (first | (with_reducible first | refine Ju.go ?_ | (refine Hd.go ?_; intro K Q hK hQ; simp only [nod_imm, Try.underlying29, e_eql, e2, decide_false, List.getD_cons_succ, List.getD_cons_zero, e_cond, Bool.false_eq_true, if_false, nod_cptr, e_ldc, e_fac, Nat.reduceAdd, lv_cons, List.length_nil, Nat.zero_add, Nat.reduceLeDiff, true_and, e_ldcV, nod_arr, nd_no, e_lenA, List.length_map, Try.underlying3, e_sub]; subst hK hQ) | refine Jr.go ?_) | refine sd ?_)
    refine call_ofD (c45 _ _ _ _) ?_
    cases hu : inB u 0 (s.se.length - 1)
    · have hi : inS s u r = false := by unfold inS; rw [hu]; rfl
      rw [if_pos hi] at hE
      have l : usR s n t g k u r = [] := if_neg (by rw [hE]; decide)
      rw [hE, l]
      repeat (first | (with_reducible first | refine Ju.go ?_ | (refine Hd.go ?_; intro K Q hK hQ; simp only [nod_imm, e_not, Bool.not_false, List.getD_cons_succ, List.getD_cons_zero, nod_cptr, Try.underlying3, e_ldc, e_fac, Nat.reduceAdd, lv_cons, List.length_nil, Nat.zero_add, Nat.reduceLeDiff, e_ldcV, nod_arr, nd_no, true_and, e_gF, cond_true, j_one, e_cond, if_true]; subst hK hQ) | refine Jr.go ?_) | refine sd ?_)
      exact ef
    · have hu' := inB_iff.1 hu
      have hlen := (sm.nu _ (getD_memA s.se [] (show u.toNat < s.se.length by omega))).1
      have u0 : 0 ≤ u := by omega
      have u1 : u < s.se.length := by omega
      repeat (first | (with_reducible first | refine Ju.go ?_ | (refine Hd.go ?_; intro K Q hK hQ; simp only [nod_imm, e_not, Bool.not_true, List.getD_cons_succ, List.getD_cons_zero, nod_cptr, Try.underlying3, e_ldc, e_fac, Nat.reduceAdd, lv_cons, List.length_nil, Nat.zero_add, Nat.reduceLeDiff, e_ldcV, nod_arr, nd_no, ix_se, u0, u1, e_lenA, List.length_map, e_sub, true_and, e_gF, cond_false, j_side]; subst hK hQ) | refine Jr.go ?_) | refine sd ?_)
      refine call_ofD (c45 _ _ _ _) ?_
      cases hr : inB r 0 ((s.se.getD u.toNat []).length - 1)
      · have hi : inS s u r = false := by unfold inS; rw [hu, hr]; rfl
        rw [if_pos hi] at hE
        have l : usR s n t g k u r = [] := if_neg (by rw [hE]; decide)
        rw [hE, l]
        repeat (first | (with_reducible first | refine Ju.go ?_ | (refine Hd.go ?_; intro K Q hK hQ; simp only [nod_imm, e_not, Bool.not_false, List.getD_cons_zero, List.getD_cons_succ, e_cond, if_true]; subst hK hQ) | refine Jr.go ?_) | refine sd ?_)
        exact ef
      · have hi : inS s u r = true := by unfold inS; rw [hu, hr]; rfl
        rw [if_neg (by rw [hi]; decide)] at hE
        by_cases e0 : scE [s] n t g k = 0
        · obtain ⟨ho, n0, n2⟩ := scE_0 e0
          rw [e0] at hE
          have l : usR s n t g k u r = fil (isU s t u r) n := if_pos hE
          rw [hE, l, e0]
          repeat (first | (with_reducible first | refine Ju.go ?_ | (refine Hd.go ?_; intro K Q hK hQ; simp only [nod_imm, e_not, Bool.not_true, List.getD_cons_zero, List.getD_cons_succ, e_cond, Bool.false_eq_true, if_false, Try.underlying29, e_neq, decide_true, nod_cptr, e_fac, Nat.zero_add, lv_cons, List.length_nil, Nat.reduceAdd, Nat.reduceLeDiff, true_and, e_ldc]; subst hK hQ) | refine Jr.go ?_) | refine sd ?_)
          refine call_of (c58g (isU s t u r) 63 _ n _ n0 n2 fun m H m0 m1 => c63 s n t g k u r m H sm (okAsk_le ho m0 m1)) ?_
          repeat (first | (with_reducible first | refine Ju.go ?_ | (refine Hd.go ?_; intro K Q hK hQ; simp only [Try.underlying3, Try.underlying4, Try.underlying5, Try.underlying9, Try.underlying29, Try.underlying57, Try.underlying55, j_one, j_side, j_tl, j_fl, nod_nod, nod_imm, nod_ints, nd_no, nd_own, nd_full, nd_fO, oF_ap, oF_succ, nod_sl, nod_ptr, nod_cptr, nod_fn, nod_junk, nodL_imm, nod_agg, nod_tup, nod2_imm, nod2_agg, cl_imm, cl_ints, cl_agg, e_add, e_sub, e_mul, e_quo, e_rem, e_eql, e_neq, e_lss, e_leq, e_gtr, e_geq, e_beq, e_bne, e_neg, e_not, e_pick, e_cond, e_gT, e_gF, e_len, e_lenA, e_lenS, e_ix, e_ixS, e_ldc, e_ldci, e_fa, rep_cl, rep_I, e_bx, okE_I, okE_B, okE_E8, okE_ints, stV_imm, stV_ints, j_and', j_or', List.getD_cons_zero, List.getD_cons_succ, List.map_cons, List.map_nil, decide_eq_true_eq, Int.toNat_natCast, Nat.mul_one, Nat.zero_add, true_and, and_true, List.length_map, Bool.not_eq_true', decide_eq_false_iff_not, nod_lists, e_lenL, e_ixL, okE_lists, bs1, bs1L, bs2L, e_app, e_appL, e_app0, e_app0L, e_slcLo, e_slcHi, e_slcLH, e_slcHH, e_slcLHH, e_callG, e_callY, e_calmG, e_slS0, e_slSLo, e_slSHi, e_slSLH, e_slSHH, e_slSLHH, e_max2, e_min2, e_max3, e_x20, e_x21, e_x30, e_x31, e_x32, nod2_ints, nod2_lists, rep_fl, bs0, e_nilE, if_true, if_false, cond_true, cond_false, decide_true, decide_false, eq_self, Bool.false_eq_true, false_implies, true_implies, ap_own, ap_full, e_slcLoL, e_slcHiL, e_slcLHL, hp_assoc, hp_cons, hp_nil, hp_len, hp_len_cons, hp_len_nil, lv_cons, lv_nil, vs_0, vs_s, spl_s, spl_0, spl_n, dr_s, dr_0, tk_s, tk_0, e_bxI, e_fac, e_facA, e_ldcA, e_ldcL, e_ldcF, okE_agg, ck_I, ck_B, ck_ints, ck_lists, ck_arr, ck_ptr, ck_cptr, ck_fn, all_c, all_n, stV_agg, stV_lists, stV_arr, stV_ptr, stV_cptr, stV_fn, nodL_ints, nodL_lists, nodL_ptr, nodL_cptr, nodL_fn, nodL_arr0, cl_arr, cl_ptr, cl_cptr, cl_fn, cl_lists, okE_arr, okE_fn, okE_ptr, okE_cptr, e_bd0, e_bd1, e_wr, Nat.reduceAdd, Nat.reduceLeDiff, Nat.reduceEqDiff, Nat.add_zero, Bool.and_self, Bool.true_and, Bool.and_true, e_lc0, e_lA0, e_lM0, e_sc0, e_rc0, e_rA0, e_lI0, e_sI0, e_cI0, e_lc1, e_lA1, e_lM1, e_sc1, e_rc1, e_rA1, e_lI1, e_sI1, e_cI1, e_lc2, e_lA2, e_lM2, e_sc2, e_rc2, e_rA2, e_lI2, e_sI2, e_cI2, e_lc3, e_lA3, e_lM3, e_sc3, e_rc3, e_rA3, e_lI3, e_sI3, e_cI3, e_lc4, e_lA4, e_lM4, e_sc4, e_rc4, e_rA4, e_lI4, e_sI4, e_cI4, e_lc5, e_lA5, e_lM5, e_sc5, e_rc5, e_rA5, e_lI5, e_sI5, e_cI5, own0_arr, own0_ints, own0_lists, own0_imm, own0_ptr, own0_cptr, own0_fn, own0_agg, e_appB, e_appB0, ck_sl, own0_sl, stV_sl, nodL_sl, cl_sl, okE_sl, e_mkM, e_mkI, e_mkIm, e_callB, nod_bfn, nod_ifc, nod_map, nodL_ifc, nodL_bfn, nodL_map, cl_ifc, cl_bfn, ck_ifc, ck_bfn, ck_map, stV_ifc, okE_ifc, okE_bfn, nod_arr, nodL_arr, e_addU, e_mulU, e_shrK, e_shlK, e_andK, e_cv64, e_cv32, e_callEG, e_callEY, e_callEB, e_zr, e_nilSl, e_ncP, e_ncC, e_npnP, e_npeP, e_npnC, e_npeC, e_npnN, e_npeN, e_ixAP, e_ldcP, e_ldcS, e_ldcV, e_ldcT, okE_nilP, ck_nilP, okE_nilI, ck_nilI, okE_str, ck_str, e_tlen, e_tix, e_teq, e_tne, e_tadd, e_tb, e_u8lss, e_u8gtr, noV_full, nod_arr, List.length_map, reduceIte, Int.reduceEq, Int.reduceNeg, ne_eq, not_true_eq_false, not_false_eq_true, Bool.not_true, Bool.not_false, Bool.true_or, Bool.or_true, Bool.false_or, Bool.or_false, Bool.and_true, Bool.and_false, Bool.false_and, Bool.not_not, Bool.or_self, List.length_nil, Int.ofNat_zero, Int.cast_ofNat_Int, Int.natCast_zero, beq_self_eq_true, Bool.true_eq_false]; subst hK hQ) | refine Jr.go ?_) | refine sd ?_)
          exact end2 rfl rfl (.keep _ (bel_ints _ _ _)) (fzI _)
        · have l : usR s n t g k u r = [] := if_neg (by rw [hE]; exact e0)
          rw [hE, l]
          repeat (first | (with_reducible first | refine Ju.go ?_ | (refine Hd.go ?_; intro K Q hK hQ; simp only [nod_imm, e_not, Bool.not_true, List.getD_cons_zero, List.getD_cons_succ, e_cond, Bool.false_eq_true, if_false, Try.underlying29, e_neq, e0, decide_false, Bool.not_false, if_true]; subst hK hQ) | refine Jr.go ?_) | refine sd ?_)
          exact end2 rfl rfl (.full [] (bel_ints _ [] .full)) (fzI _)
theorem c35 (s : Sy) (n t g k u r : Int) (H : Hp) (sm : Sm s) (hok : okAsk s n t g k = true) (h2 : n ≤ 20000) : Ret Try.prog 35 [syV s, asV n t g k, I u, I r] H (ints (fil (isU s t u r) n) .no) H := by
  obtain ⟨o1, hn, -, -, t0, t1, -⟩ := okAsk_parts hok
  have en : ((n.toNat : Nat) : Int) = n := by omega
  refine mk35 _ _ _ _ rfl (Nat.le_refl _) (.inl rfl) ?_
  simp only [vc35, real]
  repeat (first | (with_reducible first | refine Ju.go ?_ | (refine Hd.go ?_; intro K Q hK hQ; simp only [nod_agg, List.map_cons, nodL_imm, nodL_arr, nd_no, List.map_nil, e_bxI, okE_agg, lv_cons, List.length_nil, Nat.zero_add, Nat.reduceAdd, all_c, ck_I, ck_arr, all_n, Bool.and_self, and_true, true_and]; subst hK hQ) | refine Jr.go ?_) | refine sd ?_)
  refine loop_of (fun z : Nat × Fl => z.1 ≤ n.toNat + 1 ∧ z.2.ap = true) (fun z => [I u, I r, .cptr (syV s), .cptr (asV n t g k), ints (((List.range z.1).map Int.ofNat).filter (isU s t u r)) z.2, I z.1]) (fun _ => H) (fun z => n.toNat + 1 - z.1) (0, .full) ⟨Nat.zero_le _, rfl⟩ rfl rfl ?_
  intro ⟨i, f⟩ ⟨hi, hf⟩
  dsimp only at hi hf ⊢
  repeat (first | (with_reducible first | refine Ju.go ?_ | (refine Hd.go ?_; intro K Q hK hQ; simp only [List.getD_cons_succ, List.getD_cons_zero, nod_cptr, e_fac, Nat.zero_add, lv_cons, List.length_nil, Nat.reduceAdd, Nat.reduceLeDiff, true_and, e_ldc, nod_imm, Try.underlying3, e_leq, e_cond, decide_eq_true_eq]; subst hK hQ) | refine Jr.go ?_) | refine sd ?_)
  by_cases hlt : i < n.toNat + 1
  · have d : (i : Int) ≤ n := by omega
    have hs := fil_snoc (isU s t u r) i
    have hl := fil_len (isU s t u r) i
    have eu : isU s t u r i = usF (((i : Int)).toNat + 1) s i t u r := rfl
    repeat (first | (with_reducible first | refine Ju.go ?_ | (refine Hd.go ?_; intro K Q hK hQ; simp only [d, if_true, List.getD_cons_succ, List.getD_cons_zero, nod_cptr, e_ldcA, lv_cons, List.length_nil, Nat.zero_add, Nat.reduceAdd, true_and, e_fac, Nat.reduceLeDiff, e_ldc, nod_agg, List.map_cons, nodL_imm, nodL_arr, nd_no, List.map_nil, nod_imm]; subst hK hQ) | refine Jr.go ?_) | refine sd ?_)
    refine call_of (c65 s sm o1 u r (((i : Int)).toNat + 1) i t _ (by omega) (by omega) (by omega) t0 t1) ?_
    rw [← eu]
    cases hr : isU s t u r i
    · rw [hr] at hs
      repeat (first | (with_reducible first | refine Ju.go ?_ | (refine Hd.go ?_; intro K Q hK hQ; simp only [nod_imm, e_cond, Bool.false_eq_true, if_false, List.getD_cons_zero, List.getD_cons_succ, Try.underlying3, e_add]; subst hK hQ) | refine Jr.go ?_) | refine sd ?_)
      exact ⟨(i + 1, f), ⟨by dsimp only; omega, hf⟩, by dsimp only; rw [hs]; simp, rfl, by dsimp only; omega⟩
    · rw [hr] at hs
      repeat (first | (with_reducible first | refine Ju.go ?_ | (refine Hd.go ?_; intro K Q hK hQ; simp only [nod_imm, e_cond, if_true, List.getD_cons_succ, List.getD_cons_zero, bs1, nod_ints, nd_full, e_app, hf, true_and, Try.underlying3, e_add]; subst hK hQ) | refine Jr.go ?_) | refine sd ?_)
      exact ⟨(i + 1, .own), ⟨by dsimp only; omega, rfl⟩, by dsimp only; rw [hs]; rfl, rfl, by dsimp only; omega⟩
  · have d : ¬ (i : Int) ≤ n := by omega
    obtain rfl : i = n.toNat + 1 := by omega
    repeat (first | (with_reducible first | refine Ju.go ?_ | (refine Hd.go ?_; intro K Q hK hQ; simp only [d, if_false]; subst hK hQ) | refine Jr.go ?_) | refine sd ?_)
    have : (((List.range (n.toNat + 1)).map Int.ofNat).filter (isU s t u r)) = fil (isU s t u r) n := rfl
    rw [this]
    cases f
    · exact end1 (.keep _ (bel_ints _ _ _))
    · exact end1 (.keep _ (bel_ints _ _ _))
    · exact end1 (.full _ (bel_ints _ _ _))
def lgA (s : Sy) (t g k : Int) : Nat → Int × Int
  | 0 => (-1, 0)
  | i + 1 => if (saW s i t g k).all gdW = true ∧ (lgA s t g k i).2 < ((trW s i t g k).length : Int) then ((i : Int), ((trW s i t g k).length : Int)) else lgA s t g k i
theorem lgA_ok (s : Sy) (t g k : Int) (i : Nat) : (lgA s t g k i = (-1, 0)) ∨ (0 ≤ (lgA s t g k i).1 ∧ 0 < (lgA s t g k i).2) := by
  induction i with
  | zero => exact .inl rfl
  | succ i ih =>
    unfold lgA
    split
    · rename_i h
      right
      dsimp only
      rcases ih with e | e
      · rw [e] at h; dsimp only at h; omega
      · omega
    · exact ih
def lgP (z : Int × Int) : Int := if z.2 = 0 then 0 else z.1
theorem end3' {H : Hp} (a b c : Int) : retF (.tup [I a, I b, I c]) H [I a, I b, I c] H := end3 rfl rfl rfl (fzI _) (fzI _) (fzI _)
theorem c36 (s : Sy) (n t g k : Int) (H : Hp) (sm : Sm s) (hok : okAsk s n t g k = true) (h2 : n ≤ 20000) : Ret Try.prog 36 [syV s, asV n t g k] H (.tup [I (lgA s t g k (n.toNat + 1)).1, I (lgA s t g k (n.toNat + 1)).2]) H := by
  have hn := (okAsk_parts hok).2.1
  have en : ((n.toNat : Nat) : Int) = n := by omega
  refine mk36 _ _ rfl (Nat.le_refl _) (.inl rfl) ?_
  simp only [vc36, real]
  repeat (first | (with_reducible first | refine Ju.go ?_ | (refine Hd.go ?_; intro K Q hK hQ; simp only [nod_agg, List.map_cons, nodL_imm, nodL_arr, nd_no, List.map_nil, e_bxI, okE_agg, lv_cons, List.length_nil, Nat.zero_add, Nat.reduceAdd, all_c, ck_I, ck_arr, all_n, Bool.and_self, and_true, true_and]; subst hK hQ) | refine Jr.go ?_) | refine sd ?_)
  refine loop_of (fun z : Nat × Hp => z.1 ≤ n.toNat + 1) (fun z => [.cptr (syV s), .cptr (asV n t g k), I (lgA s t g k z.1).1, I (lgA s t g k z.1).2, I z.1]) (fun z => H ++ z.2) (fun z => n.toNat + 1 - z.1) (0, []) (Nat.zero_le _) rfl (by simp) ?_
  intro ⟨i, X⟩ hi
  dsimp only at hi ⊢
  generalize hZ : H ++ X = Z
  repeat (first | (with_reducible first | refine Ju.go ?_ | (refine Hd.go ?_; intro K Q hK hQ; simp only [List.getD_cons_succ, List.getD_cons_zero, nod_cptr, e_fac, Nat.zero_add, lv_cons, List.length_nil, Nat.reduceAdd, Nat.reduceLeDiff, true_and, e_ldc, nod_imm, Try.underlying3, e_leq, e_cond, decide_eq_true_eq]; subst hK hQ) | refine Jr.go ?_) | refine sd ?_)
  by_cases hlt : i < n.toNat + 1
  · have d : (i : Int) ≤ n := by omega
    have hlen := trW_len sm (okAsk_le hok (show (0 : Int) ≤ i by omega) d)
    have hs : lgA s t g k (i + 1) = if (saW s i t g k).all gdW = true ∧ (lgA s t g k i).2 < ((trW s i t g k).length : Int) then ((i : Int), ((trW s i t g k).length : Int)) else lgA s t g k i := rfl
    have nx : ∃ z : Nat × Hp, z.1 ≤ n.toNat + 1 ∧ [V.cptr (syV s), .cptr (asV n t g k), I (lgA s t g k z.1).1, I (lgA s t g k z.1).2, I z.1] = [V.cptr (syV s), .cptr (asV n t g k), I (lgA s t g k (i + 1)).1, I (lgA s t g k (i + 1)).2, I ((i : Int) + 1)] ∧ H ++ z.2 = Z ++ [.cells [I i, I t, I g, I k]] ∧ n.toNat + 1 - z.1 < n.toNat + 1 - i :=
      ⟨(i + 1, X ++ [.cells [I i, I t, I g, I k]]), by dsimp only; omega, rfl, by dsimp only; rw [← hZ, List.append_assoc], by dsimp only; omega⟩
    rw [hs] at nx
    clear hs
    repeat (first | (with_reducible first | refine Ju.go ?_ | (refine Hd.go ?_; intro K Q hK hQ; simp only [d, if_true, List.getD_cons_succ, List.getD_cons_zero, nod_cptr, e_ldcA, lv_cons, List.length_nil, Nat.zero_add, Nat.reduceAdd, true_and, e_bx, okE_agg, all_c, ck_I, all_n, Bool.and_self, and_true, cl_agg, nod_ptr, e_sc0, Nat.reduceLeDiff, stV_agg, List.map_cons, nodL_imm, List.map_nil, spl_0, spl_n, e_fa, Nat.add_zero, nod_imm, stV_imm, okE_I, cl_imm, e_lA0, dr_0, tk_s, tk_0, nod_agg, nodL_arr, nd_no]; subst hK hQ) | refine Jr.go ?_) | refine sd ?_)
    refine call_of (c24 s i t g k _ sm (okAsk_le hok (by omega) d)) ?_
    generalize lgA s t g k i = A at *
    cases hg : (saW s i t g k).all gdW
    · rw [hg, if_neg (fun h => by cases h.1)] at nx
      repeat (first | (with_reducible first | refine Ju.go ?_ | (refine Hd.go ?_; intro K Q hK hQ; simp only [nod_tup, List.map_cons, nod2_arr, nd_no, nod2_imm, List.map_nil, e_x20, e_x21, List.getD_cons_zero, List.getD_cons_succ, nod_imm, nod_arr, Try.underlying3, e_lenA, List.length_map, e_gtr, e_gT, cond_false, j_one, e_cond, Bool.false_eq_true, if_false, e_add]; subst hK hQ) | refine Jr.go ?_) | refine sd ?_)
      exact nx
    · rw [hg] at nx
      by_cases hq : A.2 < ((trW s i t g k).length : Int)
      · rw [if_pos ⟨rfl, hq⟩] at nx
        repeat (first | (with_reducible first | refine Ju.go ?_ | (refine Hd.go ?_; intro K Q hK hQ; simp only [nod_tup, List.map_cons, nod2_arr, nd_no, nod2_imm, List.map_nil, e_x20, e_x21, List.getD_cons_zero, List.getD_cons_succ, nod_imm, nod_arr, Try.underlying3, e_lenA, List.length_map, e_gtr, hq, decide_true, e_gT, cond_true, j_one, e_cond, if_true, e_add]; subst hK hQ) | refine Jr.go ?_) | refine sd ?_)
        exact nx
      · rw [if_neg (fun h => hq h.2)] at nx
        repeat (first | (with_reducible first | refine Ju.go ?_ | (refine Hd.go ?_; intro K Q hK hQ; simp only [nod_tup, List.map_cons, nod2_arr, nd_no, nod2_imm, List.map_nil, e_x20, e_x21, List.getD_cons_zero, List.getD_cons_succ, nod_imm, nod_arr, Try.underlying3, e_lenA, List.length_map, e_gtr, hq, decide_false, e_gT, cond_true, j_one, e_cond, Bool.false_eq_true, if_false, e_add]; subst hK hQ) | refine Jr.go ?_) | refine sd ?_)
        exact nx
  · have d : ¬ (i : Int) ≤ n := by omega
    obtain rfl : i = n.toNat + 1 := by omega
    repeat (first | (with_reducible first | refine Ju.go ?_ | (refine Hd.go ?_; intro K Q hK hQ; simp only [d, if_false]; subst hK hQ) | refine Jr.go ?_) | refine sd ?_)
    exact end2F rfl rfl (fzI _) (fzI _) (by rw [← hZ]; simp)
def lgE (s : Sy) (n t g k : Int) : Int := if scE [s] n t g k ≠ 0 then scE [s] n t g k else if (lgA s t g k (n.toNat + 1)).2 = 0 then 5 else 0
def lgN (s : Sy) (n t g k : Int) : Int := if scE [s] n t g k ≠ 0 then 0 else lgP (lgA s t g k (n.toNat + 1))
def lgM (s : Sy) (n t g k : Int) : Int := if scE [s] n t g k ≠ 0 then 0 else (lgA s t g k (n.toNat + 1)).2
theorem c34 (s : Sy) (n t g k : Int) (H : Hp) (sm : Sm s) : Ret Try.prog 34 [syV s, asV n t g k] H (.tup [I (lgN s n t g k), I (lgM s n t g k), I (lgE s n t g k)]) H := by
  unfold lgE lgN lgM
  refine mk34 _ _ rfl (Nat.le_refl _) (.inl rfl) ?_
  simp only [vc34, real]
  repeat (first | (with_reducible first | refine Ju.go ?_ | (refine Hd.go ?_; intro K Q hK hQ; simp only [nod_agg, List.map_cons, nodL_imm, nodL_arr, nd_no, List.map_nil, e_bxI, okE_agg, lv_cons, List.length_nil, Nat.zero_add, Nat.reduceAdd, all_c, ck_I, ck_arr, all_n, Bool.and_self, and_true, true_and, nod_cptr, e_ldcA, bs1Y, nod_arr, nd_full]; subst hK hQ) | refine Jr.go ?_) | refine sd ?_)
  refine call_of (c57 [s] n t g k _ (fun x hx => by simp only [List.mem_singleton] at hx; subst hx; exact sm) (by simp)) ?_
  by_cases e0 : scE [s] n t g k = 0
  · obtain ⟨ho, n0, n2⟩ := scE_0 e0
    have en : ((n.toNat : Nat) : Int) = n := by omega
    rw [if_neg (fun h => h e0), if_neg (fun h => h e0), if_neg (fun h => h e0), e0]
    repeat (first | (with_reducible first | refine Ju.go ?_ | (refine Hd.go ?_; intro K Q hK hQ; simp only [nod_imm, Try.underlying29, e_neq, decide_true, Bool.not_true, List.getD_cons_succ, List.getD_cons_zero, e_cond, Bool.false_eq_true, if_false, nod_cptr, e_fac, Nat.zero_add, lv_cons, List.length_nil, Nat.reduceAdd, Nat.reduceLeDiff, true_and, e_ldc, Try.underlying3, e_add]; subst hK hQ) | refine Jr.go ?_) | refine sd ?_)
    refine loop_of (fun i : Nat => i ≤ n.toNat + 1) (fun i => [.cptr (syV s), .cptr (asV n t g k), I (lgP (lgA s t g k i)), I (lgA s t g k i).2, I (n + 1), I i]) (fun _ => H) (fun i => n.toNat + 1 - i) 0 (Nat.zero_le _) rfl rfl ?_
    intro i hi
    repeat (first | (with_reducible first | refine Ju.go ?_ | (refine Hd.go ?_; intro K Q hK hQ; simp only [List.getD_cons_succ, List.getD_cons_zero, nod_imm, Try.underlying3, e_lss, e_cond, decide_eq_true_eq]; subst hK hQ) | refine Jr.go ?_) | refine sd ?_)
    by_cases hlt : i < n.toNat + 1
    · have d : (i : Int) < n + 1 := by omega
      have hlen := trW_len sm (okAsk_le ho (show (0 : Int) ≤ i by omega) (by omega))
      have hs : lgA s t g k (i + 1) = if (saW s i t g k).all gdW = true ∧ (lgA s t g k i).2 < ((trW s i t g k).length : Int) then ((i : Int), ((trW s i t g k).length : Int)) else lgA s t g k i := rfl
      have hA := lgA_ok s t g k i
      have nx : ∃ z : Nat, z ≤ n.toNat + 1 ∧ [V.cptr (syV s), .cptr (asV n t g k), I (lgP (lgA s t g k z)), I (lgA s t g k z).2, I (n + 1), I z] = [V.cptr (syV s), .cptr (asV n t g k), I (lgP (lgA s t g k (i + 1))), I (lgA s t g k (i + 1)).2, I (n + 1), I ((i : Int) + 1)] ∧ H = H ∧ n.toNat + 1 - z < n.toNat + 1 - i :=
        ⟨i + 1, by omega, rfl, rfl, by omega⟩
      rw [hs] at nx
      clear hs
      repeat (first | (with_reducible first | refine Ju.go ?_ | (refine Hd.go ?_; intro K Q hK hQ; simp only [d, if_true, List.getD_cons_zero, nod_cptr, e_ldcA, lv_cons, List.length_nil, Nat.zero_add, Nat.reduceAdd, true_and, nod_agg, List.map_cons, nodL_imm, nodL_arr, nd_no, List.map_nil, e_bd1, okE_agg, all_c, ck_I, ck_arr, all_n, Bool.and_self, and_true, Nat.reduceLeDiff, cl_agg, spl_0, spl_n, e_bd0, List.getD_cons_succ, nod_imm]; subst hK hQ) | refine Jr.go ?_) | refine sd ?_)
      refine calm_of (fun H => c60 n t g k i H) ?_
      repeat (first | (with_reducible first | refine Ju.go ?_ | (refine Hd.go ?_; intro K Q hK hQ; simp only [nod_agg, List.map_cons, nodL_imm, nodL_arr, nd_no, List.map_nil]; subst hK hQ) | refine Jr.go ?_) | refine sd ?_)
      refine call_ofD (c52 s i t g k _ sm (okAsk_le ho (by omega) (by omega))) ?_
      generalize lgA s t g k i = A at *
      cases hg : (saW s i t g k).all gdW
      · rw [hg, if_neg (fun h => by cases h.1)] at nx
        repeat (first | (with_reducible first | refine Ju.go ?_ | (refine Hd.go ?_; intro K Q hK hQ; simp only [nod_tup, List.map_cons, nod2_arr, nd_no, nod2_imm, List.map_nil, e_x20, e_x21, List.getD_cons_zero, List.getD_cons_succ, nod_imm, nod_arr, Try.underlying3, e_lenA, List.length_map, e_gtr, e_gT, cond_false, j_one, e_cond, Bool.false_eq_true, if_false, e_add]; subst hK hQ) | refine Jr.go ?_) | refine sd ?_)
        exact nx
      · rw [hg] at nx
        by_cases hq : A.2 < ((trW s i t g k).length : Int)
        · rw [if_pos ⟨rfl, hq⟩] at nx
          have hz : ¬ ((trW s i t g k).length : Int) = 0 := by
            rcases hA with e | e
            · rw [e] at hq; dsimp only at hq; omega
            · omega
          have eP : lgP ((i : Int), ((trW s i t g k).length : Int)) = i := if_neg hz
          rw [eP] at nx
          repeat (first | (with_reducible first | refine Ju.go ?_ | (refine Hd.go ?_; intro K Q hK hQ; simp only [nod_tup, List.map_cons, nod2_arr, nd_no, nod2_imm, List.map_nil, e_x20, e_x21, List.getD_cons_zero, List.getD_cons_succ, nod_imm, nod_arr, Try.underlying3, e_lenA, List.length_map, e_gtr, hq, decide_true, e_gT, cond_true, j_one, e_cond, if_true, e_add]; subst hK hQ) | refine Jr.go ?_) | refine sd ?_)
          exact nx
        · rw [if_neg (fun h => hq h.2)] at nx
          repeat (first | (with_reducible first | refine Ju.go ?_ | (refine Hd.go ?_; intro K Q hK hQ; simp only [nod_tup, List.map_cons, nod2_arr, nd_no, nod2_imm, List.map_nil, e_x20, e_x21, List.getD_cons_zero, List.getD_cons_succ, nod_imm, nod_arr, Try.underlying3, e_lenA, List.length_map, e_gtr, hq, decide_false, e_gT, cond_true, j_one, e_cond, Bool.false_eq_true, if_false, e_add]; subst hK hQ) | refine Jr.go ?_) | refine sd ?_)
          exact nx
    · have d : ¬ (i : Int) < n + 1 := by omega
      obtain rfl : i = n.toNat + 1 := by omega
      generalize lgA s t g k (n.toNat + 1) = A
      by_cases hz : A.2 = 0
      · have eP : lgP A = 0 := if_pos hz
        rw [eP, if_pos hz, hz]
        repeat (first | (with_reducible first | refine Ju.go ?_ | (refine Hd.go ?_; intro K Q hK hQ; simp only [d, if_false, List.getD_cons_succ, List.getD_cons_zero, nod_imm, Try.underlying3, e_eql, decide_true, e_cond, if_true]; subst hK hQ) | refine Jr.go ?_) | refine sd ?_)
        exact end3' _ _ _
      · rw [if_neg hz]
        repeat (first | (with_reducible first | refine Ju.go ?_ | (refine Hd.go ?_; intro K Q hK hQ; simp only [d, if_false, List.getD_cons_succ, List.getD_cons_zero, nod_imm, Try.underlying3, e_eql, hz, decide_false, e_cond, Bool.false_eq_true]; subst hK hQ) | refine Jr.go ?_) | refine sd ?_)
        exact end3' _ _ _
  · rw [if_pos e0, if_pos e0, if_pos e0]
    repeat (first | (with_reducible first | refine Ju.go ?_ | (refine Hd.go ?_; intro K Q hK hQ; simp only [nod_imm, Try.underlying29, e_neq, e0, decide_false, Bool.not_false, List.getD_cons_succ, List.getD_cons_zero, e_cond, if_true]; subst hK hQ) | refine Jr.go ?_) | refine sd ?_)
    exact end3' _ _ _
end Go.Proofs.Ytgodfjbmblghnaa

