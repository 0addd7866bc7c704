/- The machinery of the proof, part 4: an abstract machine over list values, proved sound against the model, and the contracts of the functions that the law reaches. No condition. -/
import Derived.Test.YtgicpobploinhaaP3
import Derived.Test.YtgicpobploinhaaProg
set_option linter.unusedVariables false
set_option maxRecDepth 20000
set_option maxHeartbeats 4000000
namespace Go.Proofs.Ytgicpobploinhaa
open Go Go.Ab Go.Proofs
theorem hm : Try.prog.follows .mixedOrders = true := by kernel_rfl
def an48 : An := { imm := [], jn := [], lp := [], loud := [], ord := [] }
def vc48 (C : Cb) (H : Hp) (R : List V → Hp → Prop) : Prop :=
 C.aBx false 3 (V.agg [(V.arr [] .full), (I 0), (V.arr [] .full)]) H fun v1 H2 =>
 C.aBS 1 5 (I 0) [(0, (I 1)), (1, (I 1)), (2, (I 3)), (3, (I 9)), (4, (I 9))] fun v3 =>
 C.aBS 1 1 (I 0) [(0, (I 1))] fun v4 =>
 C.aBS 1 1 (I 0) [(0, (I 2))] fun v5 =>
 C.aBS 1 1 (I 0) [(0, (I 3))] fun v6 =>
 C.aBS 1 2 (I 0) [(0, (I 1)), (1, (I 3))] fun v7 =>
 C.aBS 1 4 (V.arr [] .full) [(0, v4.nod), (1, v5.nod), (2, v6.nod), (3, v7.nod)] fun v8 =>
 C.aBd [(V.arr [] .full), (I 0), (V.arr [] .full)] [(0, 1, v3.nod), (1, 1, (I 9)), (2, 1, v8.nod.nod)] fun v9 =>
 C.aSt 3 v1.nod (own0 v9 v3) H2 fun v10 H11 =>
 C.aRes 3 true v1 H11 fun v12 =>
 R [v12] H11
theorem wf48 : (Nat.ble 0 Try.f48.ntmps && wfC an48 Try.f48.ntmps (Try.f48.body.getD .skip)) = true := by kernel_rfl
theorem tie48 (C : Cb) (H : Hp) (R : List V → Hp → Prop) : wpG Try.prog C an48 (Try.f48.body.getD .skip) (argF []) H (retG Try.prog C Try.f48 R) (fun _ _ _ => False) (retG Try.prog C Try.f48 R) = vc48 C H R := by kernel_rfl
theorem mk48 {H : Hp} {v : V} {H1 : Hp} (hd : v.Nd) (hn : H.length ≤ H1.length) (hb : H1 = H ∨ ∀ (b : Nat) (blk : Blk), H1[b]? = some blk → H[b]? = some blk ∨ BelB H1.length blk) (h : vc48 (real Try.prog) H (retF v H1)) : Ret Try.prog 48 [] H v H1 :=
 ret_mk (an := an48) hm Try.call48 Try.func48 rfl wf48 hd hn hb (Eq.mpr (tie48 (real Try.prog) H (retF v H1)) h)
def an25 : An := { imm := [], jn := [], lp := [], loud := [], ord := [] }
def vc25 (C : Cb) (a0 a1 : V) (H : Hp) (R : List V → Hp → Prop) : Prop :=
 C.callE 58 [a0.nod.nod, a1.nod.nod] H fun v1 H2 =>
 R [v1] H2
theorem wf25 : (Nat.ble 2 Try.f25.ntmps && wfC an25 Try.f25.ntmps (Try.f25.body.getD .skip)) = true := by kernel_rfl
theorem tie25 (C : Cb) (a0 a1 : V) (H : Hp) (R : List V → Hp → Prop) : wpG Try.prog C an25 (Try.f25.body.getD .skip) (argF [a0, a1]) H (retG Try.prog C Try.f25 R) (fun _ _ _ => False) (retG Try.prog C Try.f25 R) = vc25 C a0 a1 H R := by kernel_rfl
theorem mk25 (a0 a1 : V) {H : Hp} {v : V} {H1 : Hp} (hd : v.Nd) (hn : H.length ≤ H1.length) (hb : H1 = H ∨ ∀ (b : Nat) (blk : Blk), H1[b]? = some blk → H[b]? = some blk ∨ BelB H1.length blk) (h : vc25 (real Try.prog) a0 a1 H (retF v H1)) : Ret Try.prog 25 [a0, a1] H v H1 :=
 ret_mk (an := an25) hm Try.call25 Try.func25 rfl wf25 hd hn hb (Eq.mpr (tie25 (real Try.prog) a0 a1 H (retF v H1)) h)
def an27 : An := { imm := [], jn := [(7, [0, 3, 63])], lp := [(4, [0, 3])], loud := [], ord := [] }
def vc27 (C : Cb) (a0 : V) (H : Hp) (R : List V → Hp → Prop) : Prop :=
 C.aLen a0.nod.nod fun v1 =>
 C.aBin (Try.prog.underlying 3) .gtr v1.nod (I 60) fun v2 =>
 aCond v2.nod (
 R [(B false)] H) (
 LoopA (fun l3 H4 K5 =>
 C.aLen (l3.getD 0 .junk).nod.nod fun v6 =>
 C.aBin (Try.prog.underlying 3) .lss (l3.getD 1 .junk).nod.nod v6.nod fun v7 =>
 aCond v7.nod (
 Jn (fun l8 H9 =>
 aCond (l8.getD 2 .junk).nod (
 R [(B false)] H9) (
 C.aBin (Try.prog.underlying 3) .add (l8.getD 1 .junk).nod.nod (I 1) fun v11 =>
 K5 [(l8.getD 0 .junk), v11] H9))
 (fun R10 =>
 C.aIx 5 (l3.getD 0 .junk).nod.nod (l3.getD 1 .junk).nod.nod fun v12 =>
 C.aFA 0 1 false v12.nod fun v13 =>
 C.aLd 1 false false v13.nod H4 fun v14 H15 =>
 C.aBin (Try.prog.underlying 3) .lss v14.nod (I 1) fun v16 =>
 Jv (fun v17 H18 =>
 Jv (fun v25 H26 =>
 Jv (fun v33 H34 =>
 Jv (fun v45 H46 =>
 Jv (fun v53 H54 =>
 R10 [(l3.getD 0 .junk), (l3.getD 1 .junk), v53] H54)
 (fun R55 =>
 aG v45.nod false (
 C.aIx 5 (l3.getD 0 .junk).nod.nod (l3.getD 1 .junk).nod.nod fun v56 =>
 C.aFA 2 1 false v56.nod fun v57 =>
 C.aLd 1 false false v57.nod H46 fun v58 H59 =>
 C.aBin (Try.prog.underlying 3) .gtr v58.nod (I 20) fun v60 =>
 R55 v60.nod H59) (
 R55 (B true) H46)))
 (fun R47 =>
 aG v33.nod false (
 C.aIx 5 (l3.getD 0 .junk).nod.nod (l3.getD 1 .junk).nod.nod fun v48 =>
 C.aFA 2 1 false v48.nod fun v49 =>
 C.aLd 1 false false v49.nod H34 fun v50 H51 =>
 C.aBin (Try.prog.underlying 3) .lss v50.nod (I 0) fun v52 =>
 R47 v52.nod H51) (
 R47 (B true) H34)))
 (fun R35 =>
 aG v25.nod false (
 C.aIx 5 (l3.getD 0 .junk).nod.nod (l3.getD 1 .junk).nod.nod fun v36 =>
 C.aFA 1 1 false v36.nod fun v37 =>
 C.aLd 1 false false v37.nod H26 fun v38 H39 =>
 C.aIx 5 (l3.getD 0 .junk).nod.nod (l3.getD 1 .junk).nod.nod fun v40 =>
 C.aFA 0 1 false v40.nod fun v41 =>
 C.aLd 1 false false v41.nod H39 fun v42 H43 =>
 C.aBin (Try.prog.underlying 3) .geq v38.nod v42.nod fun v44 =>
 R35 v44.nod H43) (
 R35 (B true) H26)))
 (fun R27 =>
 aG v17.nod false (
 C.aIx 5 (l3.getD 0 .junk).nod.nod (l3.getD 1 .junk).nod.nod fun v28 =>
 C.aFA 1 1 false v28.nod fun v29 =>
 C.aLd 1 false false v29.nod H18 fun v30 H31 =>
 C.aBin (Try.prog.underlying 3) .lss v30.nod (I (-1)) fun v32 =>
 R27 v32.nod H31) (
 R27 (B true) H18)))
 (fun R19 =>
 aG v16.nod false (
 C.aIx 5 (l3.getD 0 .junk).nod.nod (l3.getD 1 .junk).nod.nod fun v20 =>
 C.aFA 0 1 false v20.nod fun v21 =>
 C.aLd 1 false false v21.nod H15 fun v22 H23 =>
 C.aBin (Try.prog.underlying 3) .gtr v22.nod (I 20) fun v24 =>
 R19 v24.nod H23) (
 R19 (B true) H15)))) (
 R [(B true)] H4))
 [a0, (I 0)] H)
theorem wf27 : (Nat.ble 1 Try.f27.ntmps && wfC an27 Try.f27.ntmps (Try.f27.body.getD .skip)) = true := by kernel_rfl
theorem tie27 (C : Cb) (a0 : V) (H : Hp) (R : List V → Hp → Prop) : wpG Try.prog C an27 (Try.f27.body.getD .skip) (argF [a0]) H (retG Try.prog C Try.f27 R) (fun _ _ _ => False) (retG Try.prog C Try.f27 R) = vc27 C a0 H R := by kernel_rfl
theorem mk27 (a0 : V) {H : Hp} {v : V} {H1 : Hp} (hd : v.Nd) (hn : H.length ≤ H1.length) (hb : H1 = H ∨ ∀ (b : Nat) (blk : Blk), H1[b]? = some blk → H[b]? = some blk ∨ BelB H1.length blk) (h : vc27 (real Try.prog) a0 H (retF v H1)) : Ret Try.prog 27 [a0] H v H1 :=
 ret_mk (an := an27) hm Try.call27 Try.func27 rfl wf27 hd hn hb (Eq.mpr (tie27 (real Try.prog) a0 H (retF v H1)) h)
def an28 : An := { imm := [], jn := [(7, [0, 3, 58])], lp := [(4, [0, 3])], loud := [], ord := [] }
def vc28 (C : Cb) (a0 : V) (H : Hp) (R : List V → Hp → Prop) : Prop :=
 C.aLen a0.nod.nod fun v1 =>
 C.aBin (Try.prog.underlying 3) .gtr v1.nod (I 20) fun v2 =>
 aCond v2.nod (
 R [(B false)] H) (
 LoopA (fun l3 H4 K5 =>
 C.aLen (l3.getD 0 .junk).nod.nod fun v6 =>
 C.aBin (Try.prog.underlying 3) .lss (l3.getD 1 .junk).nod.nod v6.nod fun v7 =>
 aCond v7.nod (
 Jn (fun l8 H9 =>
 aCond (l8.getD 2 .junk).nod (
 R [(B false)] H9) (
 C.aBin (Try.prog.underlying 3) .add (l8.getD 1 .junk).nod.nod (I 1) fun v11 =>
 K5 [(l8.getD 0 .junk), v11] H9))
 (fun R10 =>
 C.aIx 3 (l3.getD 0 .junk).nod.nod (l3.getD 1 .junk).nod.nod fun v12 =>
 C.aFA 0 1 false v12.nod fun v13 =>
 C.aLd 1 false false v13.nod H4 fun v14 H15 =>
 C.aBin (Try.prog.underlying 96) .lss v14.nod (I 1) fun v16 =>
 Jv (fun v17 H18 =>
 Jv (fun v25 H26 =>
 Jv (fun v33 H34 =>
 Jv (fun v41 H42 =>
 Jv (fun v49 H50 =>
 R10 [(l3.getD 0 .junk), (l3.getD 1 .junk), v49] H50)
 (fun R51 =>
 aG v41.nod false (
 C.aIx 3 (l3.getD 0 .junk).nod.nod (l3.getD 1 .junk).nod.nod fun v52 =>
 C.aFA 2 1 false v52.nod fun v53 =>
 C.aLd 1 false false v53.nod H42 fun v54 H55 =>
 C.aBin (Try.prog.underlying 3) .gtr v54.nod (I 400) fun v56 =>
 R51 v56.nod H55) (
 R51 (B true) H42)))
 (fun R43 =>
 aG v33.nod false (
 C.aIx 3 (l3.getD 0 .junk).nod.nod (l3.getD 1 .junk).nod.nod fun v44 =>
 C.aFA 2 1 false v44.nod fun v45 =>
 C.aLd 1 false false v45.nod H34 fun v46 H47 =>
 C.aBin (Try.prog.underlying 3) .lss v46.nod (I 0) fun v48 =>
 R43 v48.nod H47) (
 R43 (B true) H34)))
 (fun R35 =>
 aG v25.nod false (
 C.aIx 3 (l3.getD 0 .junk).nod.nod (l3.getD 1 .junk).nod.nod fun v36 =>
 C.aFA 1 1 false v36.nod fun v37 =>
 C.aLd 1 false false v37.nod H26 fun v38 H39 =>
 C.aBin (Try.prog.underlying 3) .gtr v38.nod (I 2) fun v40 =>
 R35 v40.nod H39) (
 R35 (B true) H26)))
 (fun R27 =>
 aG v17.nod false (
 C.aIx 3 (l3.getD 0 .junk).nod.nod (l3.getD 1 .junk).nod.nod fun v28 =>
 C.aFA 1 1 false v28.nod fun v29 =>
 C.aLd 1 false false v29.nod H18 fun v30 H31 =>
 C.aBin (Try.prog.underlying 3) .lss v30.nod (I 1) fun v32 =>
 R27 v32.nod H31) (
 R27 (B true) H18)))
 (fun R19 =>
 aG v16.nod false (
 C.aIx 3 (l3.getD 0 .junk).nod.nod (l3.getD 1 .junk).nod.nod fun v20 =>
 C.aFA 0 1 false v20.nod fun v21 =>
 C.aLd 1 false false v21.nod H15 fun v22 H23 =>
 C.aBin (Try.prog.underlying 96) .gtr v22.nod (I 6) fun v24 =>
 R19 v24.nod H23) (
 R19 (B true) H15)))) (
 R [(B true)] H4))
 [a0, (I 0)] H)
theorem wf28 : (Nat.ble 1 Try.f28.ntmps && wfC an28 Try.f28.ntmps (Try.f28.body.getD .skip)) = true := by kernel_rfl
theorem tie28 (C : Cb) (a0 : V) (H : Hp) (R : List V → Hp → Prop) : wpG Try.prog C an28 (Try.f28.body.getD .skip) (argF [a0]) H (retG Try.prog C Try.f28 R) (fun _ _ _ => False) (retG Try.prog C Try.f28 R) = vc28 C a0 H R := by kernel_rfl
theorem mk28 (a0 : V) {H : Hp} {v : V} {H1 : Hp} (hd : v.Nd) (hn : H.length ≤ H1.length) (hb : H1 = H ∨ ∀ (b : Nat) (blk : Blk), H1[b]? = some blk → H[b]? = some blk ∨ BelB H1.length blk) (h : vc28 (real Try.prog) a0 H (retF v H1)) : Ret Try.prog 28 [a0] H v H1 :=
 ret_mk (an := an28) hm Try.call28 Try.func28 rfl wf28 hd hn hb (Eq.mpr (tie28 (real Try.prog) a0 H (retF v H1)) h)
def an44 : An := { imm := [], jn := [(5, [0, 1, 5, 20])], lp := [(2, [0, 1, 5])], loud := [], ord := [] }
def vc44 (C : Cb) (a0 a1 : V) (H : Hp) (R : List V → Hp → Prop) : Prop :=
 LoopA (fun l1 H2 K3 =>
 C.aLen (l1.getD 0 .junk).nod.nod fun v4 =>
 C.aBin (Try.prog.underlying 3) .lss (l1.getD 2 .junk).nod.nod v4.nod fun v5 =>
 aCond v5.nod (
 Jn (fun l6 H7 =>
 aCond (l6.getD 3 .junk).nod (
 C.aIx 1 (l6.getD 0 .junk).nod.nod (l6.getD 2 .junk).nod.nod fun v9 =>
 C.aLd 1 false false v9.nod H7 fun v10 H11 =>
 C.aIx 1 (l6.getD 1 .junk).nod.nod (l6.getD 2 .junk).nod.nod fun v12 =>
 C.aLd 1 false false v12.nod H11 fun v13 H14 =>
 C.aBin (Try.prog.underlying 3) .lss v10.nod v13.nod fun v15 =>
 R [v15] H14) (
 C.aBin (Try.prog.underlying 3) .add (l6.getD 2 .junk).nod.nod (I 1) fun v16 =>
 K3 [(l6.getD 0 .junk), (l6.getD 1 .junk), v16] H7))
 (fun R8 =>
 C.aIx 1 (l1.getD 0 .junk).nod.nod (l1.getD 2 .junk).nod.nod fun v17 =>
 C.aLd 1 false false v17.nod H2 fun v18 H19 =>
 C.aIx 1 (l1.getD 1 .junk).nod.nod (l1.getD 2 .junk).nod.nod fun v20 =>
 C.aLd 1 false false v20.nod H19 fun v21 H22 =>
 C.aBin (Try.prog.underlying 3) .neq v18.nod v21.nod fun v23 =>
 R8 [(l1.getD 0 .junk), (l1.getD 1 .junk), (l1.getD 2 .junk), v23] H22)) (
 R [(B false)] H2))
 [a0, a1, (I 0)] H
theorem wf44 : (Nat.ble 2 Try.f44.ntmps && wfC an44 Try.f44.ntmps (Try.f44.body.getD .skip)) = true := by kernel_rfl
theorem tie44 (C : Cb) (a0 a1 : V) (H : Hp) (R : List V → Hp → Prop) : wpG Try.prog C an44 (Try.f44.body.getD .skip) (argF [a0, a1]) H (retG Try.prog C Try.f44 R) (fun _ _ _ => False) (retG Try.prog C Try.f44 R) = vc44 C a0 a1 H R := by kernel_rfl
theorem mk44 (a0 a1 : V) {H : Hp} {v : V} {H1 : Hp} (hd : v.Nd) (hn : H.length ≤ H1.length) (hb : H1 = H ∨ ∀ (b : Nat) (blk : Blk), H1[b]? = some blk → H[b]? = some blk ∨ BelB H1.length blk) (h : vc44 (real Try.prog) a0 a1 H (retF v H1)) : Ret Try.prog 44 [a0, a1] H v H1 :=
 ret_mk (an := an44) hm Try.call44 Try.func44 rfl wf44 hd hn hb (Eq.mpr (tie44 (real Try.prog) a0 a1 H (retF v H1)) h)
def an49 : An := { imm := [1], jn := [(2, [1, 26]), (7, [1, 28, 29, 30, 48])], lp := [(4, [1, 28, 29, 30])], loud := [], ord := [] }
def vc49 (C : Cb) (a0 : V) (H : Hp) (R : List V → Hp → Prop) : Prop :=
 C.aBx true 3 a0.nod H fun v1 H2 =>
 Jn (fun l3 H4 =>
 aCond (l3.getD 1 .junk).nod (
 R [(B false)] H4) (
 C.aFA 2 1 false (l3.getD 0 .junk).nod fun v6 =>
 C.aLd 1 false false v6.nod H4 fun v7 H8 =>
 C.aLen v7.nod fun v9 =>
 LoopA (fun l10 H11 K12 =>
 C.aBin (Try.prog.underlying 3) .lss (l10.getD 3 .junk).nod (l10.getD 2 .junk).nod fun v13 =>
 aCond v13.nod (
 C.aIx 1 (l10.getD 1 .junk).nod (l10.getD 3 .junk).nod fun v14 =>
 C.aLd 1 false false v14.nod H11 fun v15 H16 =>
 Jn (fun l17 H18 =>
 aCond (l17.getD 4 .junk).nod (
 R [(B false)] H18) (
 C.aBin (Try.prog.underlying 3) .add (l17.getD 3 .junk).nod (I 1) fun v20 =>
 K12 [(l17.getD 0 .junk), (l17.getD 1 .junk), (l17.getD 2 .junk), v20.nod] H18))
 (fun R19 =>
 C.aLen v15.nod.nod fun v21 =>
 C.callE 55 [v21.nod, (I 1), (I 4)] H16 fun v22 H23 =>
 C.aUn .not v22.nod fun v24 =>
 Jv (fun v25 H26 =>
 Jv (fun v33 H34 =>
 R19 [(l10.getD 0 .junk), (l10.getD 1 .junk), (l10.getD 2 .junk), (l10.getD 3 .junk), v33] H34)
 (fun R35 =>
 aG v25.nod false (
 C.callE 79 [v15.nod.nod, (V.fn 81 [(l10.getD 0 .junk).nod])] H26 fun v36 H37 =>
 R35 v36.nod H37) (
 R35 (B true) H26)))
 (fun R27 =>
 aG v24.nod false (
 C.aLd 3 true false (l10.getD 0 .junk).nod H23 fun v28 H29 =>
 C.callE 50 [v28.nod, v15.nod.nod] H29 fun v30 H31 =>
 C.aUn .not v30.nod fun v32 =>
 R27 v32.nod H31) (
 R27 (B true) H23)))) (
 R [(B true)] H11))
 [(l3.getD 0 .junk), v7, v9, (I 0)] H8))
 (fun R5 =>
 C.aFA 0 1 false v1.nod fun v38 =>
 C.aLd 1 false false v38.nod H2 fun v39 H40 =>
 C.aLen v39.nod fun v41 =>
 C.callE 55 [v41.nod, (I 1), (I 200)] H40 fun v42 H43 =>
 C.aUn .not v42.nod fun v44 =>
 Jv (fun v45 H46 =>
 Jv (fun v54 H55 =>
 Jv (fun v62 H63 =>
 R5 [v1, v62] H63)
 (fun R64 =>
 aG v54.nod false (
 C.aFA 0 1 false v1.nod fun v65 =>
 C.aLd 1 false false v65.nod H55 fun v66 H67 =>
 C.callE 79 [v66.nod, (V.fn 80 [])] H67 fun v68 H69 =>
 R64 v68.nod H69) (
 R64 (B true) H55)))
 (fun R56 =>
 aG v45.nod false (
 C.aFA 2 1 false v1.nod fun v57 =>
 C.aLd 1 false false v57.nod H46 fun v58 H59 =>
 C.aLen v58.nod fun v60 =>
 C.aBin (Try.prog.underlying 3) .gtr v60.nod (I 300) fun v61 =>
 R56 v61.nod H59) (
 R56 (B true) H46)))
 (fun R47 =>
 aG v44.nod false (
 C.aFA 1 1 false v1.nod fun v48 =>
 C.aLd 1 false false v48.nod H43 fun v49 H50 =>
 C.callE 55 [v49.nod, (I 0), (I 9)] H50 fun v51 H52 =>
 C.aUn .not v51.nod fun v53 =>
 R47 v53.nod H52) (
 R47 (B true) H43)))
theorem wf49 : (Nat.ble 1 Try.f49.ntmps && wfC an49 Try.f49.ntmps (Try.f49.body.getD .skip)) = true := by kernel_rfl
theorem tie49 (C : Cb) (a0 : V) (H : Hp) (R : List V → Hp → Prop) : wpG Try.prog C an49 (Try.f49.body.getD .skip) (argF [a0]) H (retG Try.prog C Try.f49 R) (fun _ _ _ => False) (retG Try.prog C Try.f49 R) = vc49 C a0 H R := by kernel_rfl
theorem mk49 (a0 : V) {H : Hp} {v : V} {H1 : Hp} (hd : v.Nd) (hn : H.length ≤ H1.length) (hb : H1 = H ∨ ∀ (b : Nat) (blk : Blk), H1[b]? = some blk → H[b]? = some blk ∨ BelB H1.length blk) (h : vc49 (real Try.prog) a0 H (retF v H1)) : Ret Try.prog 49 [a0] H v H1 :=
 ret_mk (an := an49) hm Try.call49 Try.func49 rfl wf49 hd hn hb (Eq.mpr (tie49 (real Try.prog) a0 H (retF v H1)) h)
def an50 : An := { imm := [2], jn := [], lp := [], loud := [], ord := [] }
def vc50 (C : Cb) (a0 a1 : V) (H : Hp) (R : List V → Hp → Prop) : Prop :=
 C.aBx true 3 a0.nod H fun v1 H2 =>
 C.callE 79 [a1.nod.nod, (V.fn 82 [v1.nod])] H2 fun v3 H4 =>
 C.aUn .not v3.nod fun v5 =>
 R [v5] H4
theorem wf50 : (Nat.ble 2 Try.f50.ntmps && wfC an50 Try.f50.ntmps (Try.f50.body.getD .skip)) = true := by kernel_rfl
theorem tie50 (C : Cb) (a0 a1 : V) (H : Hp) (R : List V → Hp → Prop) : wpG Try.prog C an50 (Try.f50.body.getD .skip) (argF [a0, a1]) H (retG Try.prog C Try.f50 R) (fun _ _ _ => False) (retG Try.prog C Try.f50 R) = vc50 C a0 a1 H R := by kernel_rfl
theorem mk50 (a0 a1 : V) {H : Hp} {v : V} {H1 : Hp} (hd : v.Nd) (hn : H.length ≤ H1.length) (hb : H1 = H ∨ ∀ (b : Nat) (blk : Blk), H1[b]? = some blk → H[b]? = some blk ∨ BelB H1.length blk) (h : vc50 (real Try.prog) a0 a1 H (retF v H1)) : Ret Try.prog 50 [a0, a1] H v H1 :=
 ret_mk (an := an50) hm Try.call50 Try.func50 rfl wf50 hd hn hb (Eq.mpr (tie50 (real Try.prog) a0 a1 H (retF v H1)) h)
def an51 : An := { imm := [2], jn := [], lp := [], loud := [], ord := [] }
def vc51 (C : Cb) (a0 a1 : V) (H : Hp) (R : List V → Hp → Prop) : Prop :=
 C.aBx true 3 a0.nod H fun v1 H2 =>
 C.aFA 0 1 false v1.nod fun v3 =>
 C.aLd 1 false false v3.nod H2 fun v4 H5 =>
 C.aBin (Try.prog.underlying 3) .sub a1.nod.nod (I 1) fun v6 =>
 C.aIx 1 v4.nod v6.nod fun v7 =>
 C.aLd 1 false false v7.nod H5 fun v8 H9 =>
 C.aFA 1 1 false v1.nod fun v10 =>
 C.aLd 1 false false v10.nod H9 fun v11 H12 =>
 C.aBin (Try.prog.underlying 3) .geq v8.nod v11.nod fun v13 =>
 R [v13] H12
theorem wf51 : (Nat.ble 2 Try.f51.ntmps && wfC an51 Try.f51.ntmps (Try.f51.body.getD .skip)) = true := by kernel_rfl
theorem tie51 (C : Cb) (a0 a1 : V) (H : Hp) (R : List V → Hp → Prop) : wpG Try.prog C an51 (Try.f51.body.getD .skip) (argF [a0, a1]) H (retG Try.prog C Try.f51 R) (fun _ _ _ => False) (retG Try.prog C Try.f51 R) = vc51 C a0 a1 H R := by kernel_rfl
theorem mk51 (a0 a1 : V) {H : Hp} {v : V} {H1 : Hp} (hd : v.Nd) (hn : H.length ≤ H1.length) (hb : H1 = H ∨ ∀ (b : Nat) (blk : Blk), H1[b]? = some blk → H[b]? = some blk ∨ BelB H1.length blk) (h : vc51 (real Try.prog) a0 a1 H (retF v H1)) : Ret Try.prog 51 [a0, a1] H v H1 :=
 ret_mk (an := an51) hm Try.call51 Try.func51 rfl wf51 hd hn hb (Eq.mpr (tie51 (real Try.prog) a0 a1 H (retF v H1)) h)
def an55 : An := { imm := [], jn := [], lp := [], loud := [], ord := [] }
def vc55 (C : Cb) (a0 a1 a2 : V) (H : Hp) (R : List V → Hp → Prop) : Prop :=
 C.aBin (Try.prog.underlying 3) .geq a0.nod.nod a1.nod.nod fun v1 =>
 Jv (fun v2 H3 =>
 R [v2] H3)
 (fun R4 =>
 aG v1.nod true (
 C.aBin (Try.prog.underlying 3) .leq a0.nod.nod a2.nod.nod fun v5 =>
 R4 v5.nod H) (
 R4 (B false) H))
theorem wf55 : (Nat.ble 3 Try.f55.ntmps && wfC an55 Try.f55.ntmps (Try.f55.body.getD .skip)) = true := by kernel_rfl
theorem tie55 (C : Cb) (a0 a1 a2 : V) (H : Hp) (R : List V → Hp → Prop) : wpG Try.prog C an55 (Try.f55.body.getD .skip) (argF [a0, a1, a2]) H (retG Try.prog C Try.f55 R) (fun _ _ _ => False) (retG Try.prog C Try.f55 R) = vc55 C a0 a1 a2 H R := by kernel_rfl
theorem mk55 (a0 a1 a2 : V) {H : Hp} {v : V} {H1 : Hp} (hd : v.Nd) (hn : H.length ≤ H1.length) (hb : H1 = H ∨ ∀ (b : Nat) (blk : Blk), H1[b]? = some blk → H[b]? = some blk ∨ BelB H1.length blk) (h : vc55 (real Try.prog) a0 a1 a2 H (retF v H1)) : Ret Try.prog 55 [a0, a1, a2] H v H1 :=
 ret_mk (an := an55) hm Try.call55 Try.func55 rfl wf55 hd hn hb (Eq.mpr (tie55 (real Try.prog) a0 a1 a2 H (retF v H1)) h)
def an58 : An := { imm := [], jn := [(7, [0, 1, 5, 25])], lp := [(4, [0, 1, 5])], loud := [], ord := [] }
def vc58 (C : Cb) (a0 a1 : V) (H : Hp) (R : List V → Hp → Prop) : Prop :=
 C.aLen a0.nod.nod fun v1 =>
 C.aLen a1.nod.nod fun v2 =>
 C.aBin (Try.prog.underlying 3) .neq v1.nod v2.nod fun v3 =>
 aCond v3.nod (
 R [(B false)] H) (
 LoopA (fun l4 H5 K6 =>
 C.aLen (l4.getD 0 .junk).nod.nod fun v7 =>
 C.aBin (Try.prog.underlying 3) .lss (l4.getD 2 .junk).nod.nod v7.nod fun v8 =>
 aCond v8.nod (
 Jn (fun l9 H10 =>
 aCond (l9.getD 3 .junk).nod (
 R [(B false)] H10) (
 C.aBin (Try.prog.underlying 3) .add (l9.getD 2 .junk).nod.nod (I 1) fun v12 =>
 K6 [(l9.getD 0 .junk), (l9.getD 1 .junk), v12] H10))
 (fun R11 =>
 C.aIx 1 (l4.getD 0 .junk).nod.nod (l4.getD 2 .junk).nod.nod fun v13 =>
 C.aLd 1 false false v13.nod H5 fun v14 H15 =>
 C.aIx 1 (l4.getD 1 .junk).nod.nod (l4.getD 2 .junk).nod.nod fun v16 =>
 C.aLd 1 false false v16.nod H15 fun v17 H18 =>
 C.aBin (Try.prog.underlying 3) .neq v14.nod v17.nod fun v19 =>
 R11 [(l4.getD 0 .junk), (l4.getD 1 .junk), (l4.getD 2 .junk), v19] H18)) (
 R [(B true)] H5))
 [a0, a1, (I 0)] H)
theorem wf58 : (Nat.ble 2 Try.f58.ntmps && wfC an58 Try.f58.ntmps (Try.f58.body.getD .skip)) = true := by kernel_rfl
theorem tie58 (C : Cb) (a0 a1 : V) (H : Hp) (R : List V → Hp → Prop) : wpG Try.prog C an58 (Try.f58.body.getD .skip) (argF [a0, a1]) H (retG Try.prog C Try.f58 R) (fun _ _ _ => False) (retG Try.prog C Try.f58 R) = vc58 C a0 a1 H R := by kernel_rfl
theorem mk58 (a0 a1 : V) {H : Hp} {v : V} {H1 : Hp} (hd : v.Nd) (hn : H.length ≤ H1.length) (hb : H1 = H ∨ ∀ (b : Nat) (blk : Blk), H1[b]? = some blk → H[b]? = some blk ∨ BelB H1.length blk) (h : vc58 (real Try.prog) a0 a1 H (retF v H1)) : Ret Try.prog 58 [a0, a1] H v H1 :=
 ret_mk (an := an58) hm Try.call58 Try.func58 rfl wf58 hd hn hb (Eq.mpr (tie58 (real Try.prog) a0 a1 H (retF v H1)) h)
def an59 : An := { imm := [], jn := [], lp := [], loud := [], ord := [] }
def vc59 (C : Cb) (a0 : V) (H : Hp) (R : List V → Hp → Prop) : Prop :=
 C.aLen a0.nod.nod fun v1 =>
 C.aBin (Try.prog.underlying 3) .leq v1.nod (I 60) fun v2 =>
 Jv (fun v3 H4 =>
 R [v3] H4)
 (fun R5 =>
 aG v2.nod true (
 C.callE 86 [a0.nod.nod, (V.fn 87 [])] H fun v6 H7 =>
 C.aUn .not v6.nod fun v8 =>
 R5 v8.nod H7) (
 R5 (B false) H))
theorem wf59 : (Nat.ble 1 Try.f59.ntmps && wfC an59 Try.f59.ntmps (Try.f59.body.getD .skip)) = true := by kernel_rfl
theorem tie59 (C : Cb) (a0 : V) (H : Hp) (R : List V → Hp → Prop) : wpG Try.prog C an59 (Try.f59.body.getD .skip) (argF [a0]) H (retG Try.prog C Try.f59 R) (fun _ _ _ => False) (retG Try.prog C Try.f59 R) = vc59 C a0 H R := by kernel_rfl
theorem mk59 (a0 : V) {H : Hp} {v : V} {H1 : Hp} (hd : v.Nd) (hn : H.length ≤ H1.length) (hb : H1 = H ∨ ∀ (b : Nat) (blk : Blk), H1[b]? = some blk → H[b]? = some blk ∨ BelB H1.length blk) (h : vc59 (real Try.prog) a0 H (retF v H1)) : Ret Try.prog 59 [a0] H v H1 :=
 ret_mk (an := an59) hm Try.call59 Try.func59 rfl wf59 hd hn hb (Eq.mpr (tie59 (real Try.prog) a0 H (retF v H1)) h)
def an60 : An := { imm := [], jn := [], lp := [], loud := [], ord := [] }
def vc60 (C : Cb) (a0 : V) (H : Hp) (R : List V → Hp → Prop) : Prop :=
 C.aLen a0.nod.nod fun v1 =>
 C.aBin (Try.prog.underlying 3) .leq v1.nod (I 20) fun v2 =>
 Jv (fun v3 H4 =>
 R [v3] H4)
 (fun R5 =>
 aG v2.nod true (
 C.callE 88 [a0.nod.nod, (V.fn 89 [])] H fun v6 H7 =>
 C.aUn .not v6.nod fun v8 =>
 R5 v8.nod H7) (
 R5 (B false) H))
theorem wf60 : (Nat.ble 1 Try.f60.ntmps && wfC an60 Try.f60.ntmps (Try.f60.body.getD .skip)) = true := by kernel_rfl
theorem tie60 (C : Cb) (a0 : V) (H : Hp) (R : List V → Hp → Prop) : wpG Try.prog C an60 (Try.f60.body.getD .skip) (argF [a0]) H (retG Try.prog C Try.f60 R) (fun _ _ _ => False) (retG Try.prog C Try.f60 R) = vc60 C a0 H R := by kernel_rfl
theorem mk60 (a0 : V) {H : Hp} {v : V} {H1 : Hp} (hd : v.Nd) (hn : H.length ≤ H1.length) (hb : H1 = H ∨ ∀ (b : Nat) (blk : Blk), H1[b]? = some blk → H[b]? = some blk ∨ BelB H1.length blk) (h : vc60 (real Try.prog) a0 H (retF v H1)) : Ret Try.prog 60 [a0] H v H1 :=
 ret_mk (an := an60) hm Try.call60 Try.func60 rfl wf60 hd hn hb (Eq.mpr (tie60 (real Try.prog) a0 H (retF v H1)) h)
def an69 : An := { imm := [], jn := [], lp := [], loud := [], ord := [] }
def vc69 (C : Cb) (a0 a1 a2 : V) (H : Hp) (R : List V → Hp → Prop) : Prop :=
 C.aLen a0.nod.nod fun v1 =>
 C.aBin (Try.prog.underlying 3) .leq v1.nod.nod (I 200) fun v2 =>
 Jv (fun v3 H4 =>
 Jv (fun v8 H9 =>
 Jv (fun v13 H14 =>
 Jv (fun v19 H20 =>
 Jv (fun v25 H26 =>
 R [v25] H26)
 (fun R27 =>
 aG v19.nod true (
 C.callE 79 [a2.nod.nod, (V.fn 99 [])] H20 fun v28 H29 =>
 C.aUn .not v28.nod fun v30 =>
 R27 v30.nod H29) (
 R27 (B false) H20)))
 (fun R21 =>
 aG v13.nod true (
 C.callE 98 [a1.nod.nod] H14 fun v22 H23 =>
 C.aUn .not v22.nod fun v24 =>
 R21 v24.nod H23) (
 R21 (B false) H14)))
 (fun R15 =>
 aG v8.nod true (
 C.callE 98 [a0.nod.nod] H9 fun v16 H17 =>
 C.aUn .not v16.nod fun v18 =>
 R15 v18.nod H17) (
 R15 (B false) H9)))
 (fun R10 =>
 aG v3.nod true (
 C.aLen a2.nod.nod fun v11 =>
 C.aBin (Try.prog.underlying 3) .eql v11.nod v1.nod.nod fun v12 =>
 R10 v12.nod H4) (
 R10 (B false) H4)))
 (fun R5 =>
 aG v2.nod true (
 C.aLen a1.nod.nod fun v6 =>
 C.aBin (Try.prog.underlying 3) .eql v6.nod v1.nod.nod fun v7 =>
 R5 v7.nod H) (
 R5 (B false) H))
theorem wf69 : (Nat.ble 3 Try.f69.ntmps && wfC an69 Try.f69.ntmps (Try.f69.body.getD .skip)) = true := by kernel_rfl
theorem tie69 (C : Cb) (a0 a1 a2 : V) (H : Hp) (R : List V → Hp → Prop) : wpG Try.prog C an69 (Try.f69.body.getD .skip) (argF [a0, a1, a2]) H (retG Try.prog C Try.f69 R) (fun _ _ _ => False) (retG Try.prog C Try.f69 R) = vc69 C a0 a1 a2 H R := by kernel_rfl
theorem mk69 (a0 a1 a2 : V) {H : Hp} {v : V} {H1 : Hp} (hd : v.Nd) (hn : H.length ≤ H1.length) (hb : H1 = H ∨ ∀ (b : Nat) (blk : Blk), H1[b]? = some blk → H[b]? = some blk ∨ BelB H1.length blk) (h : vc69 (real Try.prog) a0 a1 a2 H (retF v H1)) : Ret Try.prog 69 [a0, a1, a2] H v H1 :=
 ret_mk (an := an69) hm Try.call69 Try.func69 rfl wf69 hd hn hb (Eq.mpr (tie69 (real Try.prog) a0 a1 a2 H (retF v H1)) h)
def an79 : An := { imm := [], jn := [], lp := [], loud := [], ord := [] }
def vc79 (C : Cb) (a0 a1 : V) (H : Hp) (R : List V → Hp → Prop) : Prop :=
 C.callE 104 [a0.nod.nod, a1.nod.nod] H fun v1 H2 =>
 C.aBin (Try.prog.underlying 3) .geq v1.nod (I 0) fun v3 =>
 R [v3] H2
theorem wf79 : (Nat.ble 2 Try.f79.ntmps && wfC an79 Try.f79.ntmps (Try.f79.body.getD .skip)) = true := by kernel_rfl
theorem tie79 (C : Cb) (a0 a1 : V) (H : Hp) (R : List V → Hp → Prop) : wpG Try.prog C an79 (Try.f79.body.getD .skip) (argF [a0, a1]) H (retG Try.prog C Try.f79 R) (fun _ _ _ => False) (retG Try.prog C Try.f79 R) = vc79 C a0 a1 H R := by kernel_rfl
theorem mk79 (a0 a1 : V) {H : Hp} {v : V} {H1 : Hp} (hd : v.Nd) (hn : H.length ≤ H1.length) (hb : H1 = H ∨ ∀ (b : Nat) (blk : Blk), H1[b]? = some blk → H[b]? = some blk ∨ BelB H1.length blk) (h : vc79 (real Try.prog) a0 a1 H (retF v H1)) : Ret Try.prog 79 [a0, a1] H v H1 :=
 ret_mk (an := an79) hm Try.call79 Try.func79 rfl wf79 hd hn hb (Eq.mpr (tie79 (real Try.prog) a0 a1 H (retF v H1)) h)
def an80 : An := { imm := [], jn := [], lp := [], loud := [], ord := [] }
def vc80 (C : Cb) (a0 : V) (H : Hp) (R : List V → Hp → Prop) : Prop :=
 C.callE 55 [a0.nod.nod, (I 0), (I 9)] H fun v1 H2 =>
 C.aUn .not v1.nod fun v3 =>
 R [v3] H2
theorem wf80 : (Nat.ble 1 Try.f80.ntmps && wfC an80 Try.f80.ntmps (Try.f80.body.getD .skip)) = true := by kernel_rfl
theorem tie80 (C : Cb) (a0 : V) (H : Hp) (R : List V → Hp → Prop) : wpG Try.prog C an80 (Try.f80.body.getD .skip) (argF [a0]) H (retG Try.prog C Try.f80 R) (fun _ _ _ => False) (retG Try.prog C Try.f80 R) = vc80 C a0 H R := by kernel_rfl
theorem mk80 (a0 : V) {H : Hp} {v : V} {H1 : Hp} (hd : v.Nd) (hn : H.length ≤ H1.length) (hb : H1 = H ∨ ∀ (b : Nat) (blk : Blk), H1[b]? = some blk → H[b]? = some blk ∨ BelB H1.length blk) (h : vc80 (real Try.prog) a0 H (retF v H1)) : Ret Try.prog 80 [a0] H v H1 :=
 ret_mk (an := an80) hm Try.call80 Try.func80 rfl wf80 hd hn hb (Eq.mpr (tie80 (real Try.prog) a0 H (retF v H1)) h)
def an81 : An := { imm := [], jn := [], lp := [], loud := [], ord := [] }
def vc81 (C : Cb) (a0 a1 : V) (H : Hp) (R : List V → Hp → Prop) : Prop :=
 C.aLd 3 true false a1.nod H fun v1 H2 =>
 C.callE 51 [v1.nod, a0.nod.nod] H2 fun v3 H4 =>
 R [v3] H4
theorem wf81 : (Nat.ble 2 Try.f81.ntmps && wfC an81 Try.f81.ntmps (Try.f81.body.getD .skip)) = true := by kernel_rfl
theorem tie81 (C : Cb) (a0 a1 : V) (H : Hp) (R : List V → Hp → Prop) : wpG Try.prog C an81 (Try.f81.body.getD .skip) (argF [a0, a1]) H (retG Try.prog C Try.f81 R) (fun _ _ _ => False) (retG Try.prog C Try.f81 R) = vc81 C a0 a1 H R := by kernel_rfl
theorem mk81 (a0 a1 : V) {H : Hp} {v : V} {H1 : Hp} (hd : v.Nd) (hn : H.length ≤ H1.length) (hb : H1 = H ∨ ∀ (b : Nat) (blk : Blk), H1[b]? = some blk → H[b]? = some blk ∨ BelB H1.length blk) (h : vc81 (real Try.prog) a0 a1 H (retF v H1)) : Ret Try.prog 81 [a0, a1] H v H1 :=
 ret_mk (an := an81) hm Try.call81 Try.func81 rfl wf81 hd hn hb (Eq.mpr (tie81 (real Try.prog) a0 a1 H (retF v H1)) h)
def an82 : An := { imm := [], jn := [], lp := [], loud := [], ord := [] }
def vc82 (C : Cb) (a0 a1 : V) (H : Hp) (R : List V → Hp → Prop) : Prop :=
 C.aFA 0 1 false a1.nod fun v1 =>
 C.aLd 1 false false v1.nod H fun v2 H3 =>
 C.aLen v2.nod fun v4 =>
 C.callE 55 [a0.nod.nod, (I 1), v4.nod] H3 fun v5 H6 =>
 C.aUn .not v5.nod fun v7 =>
 R [v7] H6
theorem wf82 : (Nat.ble 2 Try.f82.ntmps && wfC an82 Try.f82.ntmps (Try.f82.body.getD .skip)) = true := by kernel_rfl
theorem tie82 (C : Cb) (a0 a1 : V) (H : Hp) (R : List V → Hp → Prop) : wpG Try.prog C an82 (Try.f82.body.getD .skip) (argF [a0, a1]) H (retG Try.prog C Try.f82 R) (fun _ _ _ => False) (retG Try.prog C Try.f82 R) = vc82 C a0 a1 H R := by kernel_rfl
theorem mk82 (a0 a1 : V) {H : Hp} {v : V} {H1 : Hp} (hd : v.Nd) (hn : H.length ≤ H1.length) (hb : H1 = H ∨ ∀ (b : Nat) (blk : Blk), H1[b]? = some blk → H[b]? = some blk ∨ BelB H1.length blk) (h : vc82 (real Try.prog) a0 a1 H (retF v H1)) : Ret Try.prog 82 [a0, a1] H v H1 :=
 ret_mk (an := an82) hm Try.call82 Try.func82 rfl wf82 hd hn hb (Eq.mpr (tie82 (real Try.prog) a0 a1 H (retF v H1)) h)
def an83 : An := { imm := [], jn := [], lp := [], loud := [], ord := [] }
def vc83 (C : Cb) (a0 a1 : V) (H : Hp) (R : List V → Hp → Prop) : Prop :=
 C.callE 105 [a0.nod.nod, a1.nod.nod] H fun v1 H2 =>
 C.aBin (Try.prog.underlying 3) .geq v1.nod (I 0) fun v3 =>
 R [v3] H2
theorem wf83 : (Nat.ble 2 Try.f83.ntmps && wfC an83 Try.f83.ntmps (Try.f83.body.getD .skip)) = true := by kernel_rfl
theorem tie83 (C : Cb) (a0 a1 : V) (H : Hp) (R : List V → Hp → Prop) : wpG Try.prog C an83 (Try.f83.body.getD .skip) (argF [a0, a1]) H (retG Try.prog C Try.f83 R) (fun _ _ _ => False) (retG Try.prog C Try.f83 R) = vc83 C a0 a1 H R := by kernel_rfl
theorem mk83 (a0 a1 : V) {H : Hp} {v : V} {H1 : Hp} (hd : v.Nd) (hn : H.length ≤ H1.length) (hb : H1 = H ∨ ∀ (b : Nat) (blk : Blk), H1[b]? = some blk → H[b]? = some blk ∨ BelB H1.length blk) (h : vc83 (real Try.prog) a0 a1 H (retF v H1)) : Ret Try.prog 83 [a0, a1] H v H1 :=
 ret_mk (an := an83) hm Try.call83 Try.func83 rfl wf83 hd hn hb (Eq.mpr (tie83 (real Try.prog) a0 a1 H (retF v H1)) h)
def an84 : An := { imm := [], jn := [], lp := [], loud := [], ord := [] }
def vc84 (C : Cb) (a0 a1 a2 : V) (H : Hp) (R : List V → Hp → Prop) : Prop :=
 C.aLd 1 false false a1.nod H fun v1 H2 =>
 C.aLd 1 false false a1.nod H2 fun v3 H4 =>
 C.aLen v3.nod fun v5 =>
 C.aLd 1 false false a2.nod H4 fun v6 H7 =>
 C.aBin (Try.prog.underlying 3) .sub v5.nod v6.nod fun v8 =>
 C.aSlc 1 v1.nod (some v8.nod) none none fun v9 =>
 C.callE 85 [a0.nod.nod, v9.nod] H7 fun v10 H11 =>
 R [v10] H11
theorem wf84 : (Nat.ble 3 Try.f84.ntmps && wfC an84 Try.f84.ntmps (Try.f84.body.getD .skip)) = true := by kernel_rfl
theorem tie84 (C : Cb) (a0 a1 a2 : V) (H : Hp) (R : List V → Hp → Prop) : wpG Try.prog C an84 (Try.f84.body.getD .skip) (argF [a0, a1, a2]) H (retG Try.prog C Try.f84 R) (fun _ _ _ => False) (retG Try.prog C Try.f84 R) = vc84 C a0 a1 a2 H R := by kernel_rfl
theorem mk84 (a0 a1 a2 : V) {H : Hp} {v : V} {H1 : Hp} (hd : v.Nd) (hn : H.length ≤ H1.length) (hb : H1 = H ∨ ∀ (b : Nat) (blk : Blk), H1[b]? = some blk → H[b]? = some blk ∨ BelB H1.length blk) (h : vc84 (real Try.prog) a0 a1 a2 H (retF v H1)) : Ret Try.prog 84 [a0, a1, a2] H v H1 :=
 ret_mk (an := an84) hm Try.call84 Try.func84 rfl wf84 hd hn hb (Eq.mpr (tie84 (real Try.prog) a0 a1 a2 H (retF v H1)) h)
def an85 : An := { imm := [], jn := [(7, [0, 1, 12, 13, 24])], lp := [(4, [0, 1, 12, 13])], loud := [], ord := [] }
def vc85 (C : Cb) (a0 a1 : V) (H : Hp) (R : List V → Hp → Prop) : Prop :=
 C.aLen a0.nod.nod fun v1 =>
 C.aLen a1.nod.nod fun v2 =>
 C.aBin (Try.prog.underlying 3) .neq v1.nod v2.nod fun v3 =>
 aCond v3.nod (
 R [(B false)] H) (
 C.aLen a0.nod.nod fun v4 =>
 LoopA (fun l5 H6 K7 =>
 C.aBin (Try.prog.underlying 3) .lss (l5.getD 3 .junk).nod (l5.getD 2 .junk).nod fun v8 =>
 aCond v8.nod (
 Jn (fun l9 H10 =>
 aCond (l9.getD 4 .junk).nod (
 R [(B false)] H10) (
 C.aBin (Try.prog.underlying 3) .add (l9.getD 3 .junk).nod (I 1) fun v12 =>
 K7 [(l9.getD 0 .junk), (l9.getD 1 .junk), (l9.getD 2 .junk), v12.nod] H10))
 (fun R11 =>
 C.aIx 1 (l5.getD 0 .junk).nod.nod (l5.getD 3 .junk).nod.nod.nod fun v13 =>
 C.aLd 1 false false v13.nod H6 fun v14 H15 =>
 C.aIx 1 (l5.getD 1 .junk).nod.nod (l5.getD 3 .junk).nod.nod.nod fun v16 =>
 C.aLd 1 false false v16.nod H15 fun v17 H18 =>
 C.aBin (Try.prog.underlying 3) .neq v14.nod v17.nod fun v19 =>
 R11 [(l5.getD 0 .junk), (l5.getD 1 .junk), (l5.getD 2 .junk), (l5.getD 3 .junk), v19] H18)) (
 R [(B true)] H6))
 [a0, a1, v4, (I 0)] H)
theorem wf85 : (Nat.ble 2 Try.f85.ntmps && wfC an85 Try.f85.ntmps (Try.f85.body.getD .skip)) = true := by kernel_rfl
theorem tie85 (C : Cb) (a0 a1 : V) (H : Hp) (R : List V → Hp → Prop) : wpG Try.prog C an85 (Try.f85.body.getD .skip) (argF [a0, a1]) H (retG Try.prog C Try.f85 R) (fun _ _ _ => False) (retG Try.prog C Try.f85 R) = vc85 C a0 a1 H R := by kernel_rfl
theorem mk85 (a0 a1 : V) {H : Hp} {v : V} {H1 : Hp} (hd : v.Nd) (hn : H.length ≤ H1.length) (hb : H1 = H ∨ ∀ (b : Nat) (blk : Blk), H1[b]? = some blk → H[b]? = some blk ∨ BelB H1.length blk) (h : vc85 (real Try.prog) a0 a1 H (retF v H1)) : Ret Try.prog 85 [a0, a1] H v H1 :=
 ret_mk (an := an85) hm Try.call85 Try.func85 rfl wf85 hd hn hb (Eq.mpr (tie85 (real Try.prog) a0 a1 H (retF v H1)) h)
def an86 : An := { imm := [], jn := [], lp := [], loud := [], ord := [] }
def vc86 (C : Cb) (a0 a1 : V) (H : Hp) (R : List V → Hp → Prop) : Prop :=
 C.callE 106 [a0.nod.nod, a1.nod.nod] H fun v1 H2 =>
 C.aBin (Try.prog.underlying 3) .geq v1.nod (I 0) fun v3 =>
 R [v3] H2
theorem wf86 : (Nat.ble 2 Try.f86.ntmps && wfC an86 Try.f86.ntmps (Try.f86.body.getD .skip)) = true := by kernel_rfl
theorem tie86 (C : Cb) (a0 a1 : V) (H : Hp) (R : List V → Hp → Prop) : wpG Try.prog C an86 (Try.f86.body.getD .skip) (argF [a0, a1]) H (retG Try.prog C Try.f86 R) (fun _ _ _ => False) (retG Try.prog C Try.f86 R) = vc86 C a0 a1 H R := by kernel_rfl
theorem mk86 (a0 a1 : V) {H : Hp} {v : V} {H1 : Hp} (hd : v.Nd) (hn : H.length ≤ H1.length) (hb : H1 = H ∨ ∀ (b : Nat) (blk : Blk), H1[b]? = some blk → H[b]? = some blk ∨ BelB H1.length blk) (h : vc86 (real Try.prog) a0 a1 H (retF v H1)) : Ret Try.prog 86 [a0, a1] H v H1 :=
 ret_mk (an := an86) hm Try.call86 Try.func86 rfl wf86 hd hn hb (Eq.mpr (tie86 (real Try.prog) a0 a1 H (retF v H1)) h)
def an87 : An := { imm := [1], jn := [], lp := [], loud := [], ord := [] }
def vc87 (C : Cb) (a0 : V) (H : Hp) (R : List V → Hp → Prop) : Prop :=
 C.aBx true 5 a0.nod H fun v1 H2 =>
 C.aFA 0 1 false v1.nod fun v3 =>
 C.aLd 1 false false v3.nod H2 fun v4 H5 =>
 C.callE 55 [v4.nod, (I 1), (I 20)] H5 fun v6 H7 =>
 C.aUn .not v6.nod fun v8 =>
 Jv (fun v9 H10 =>
 Jv (fun v22 H23 =>
 R [v22] H23)
 (fun R24 =>
 aG v9.nod false (
 C.aFA 2 1 false v1.nod fun v25 =>
 C.aLd 1 false false v25.nod H10 fun v26 H27 =>
 C.callE 55 [v26.nod, (I 0), (I 20)] H27 fun v28 H29 =>
 C.aUn .not v28.nod fun v30 =>
 R24 v30.nod H29) (
 R24 (B true) H10)))
 (fun R11 =>
 aG v8.nod false (
 C.aFA 1 1 false v1.nod fun v12 =>
 C.aLd 1 false false v12.nod H7 fun v13 H14 =>
 C.aFA 0 1 false v1.nod fun v15 =>
 C.aLd 1 false false v15.nod H14 fun v16 H17 =>
 C.aBin (Try.prog.underlying 3) .sub v16.nod (I 1) fun v18 =>
 C.callE 55 [v13.nod, (I (-1)), v18.nod] H17 fun v19 H20 =>
 C.aUn .not v19.nod fun v21 =>
 R11 v21.nod H20) (
 R11 (B true) H7))
theorem wf87 : (Nat.ble 1 Try.f87.ntmps && wfC an87 Try.f87.ntmps (Try.f87.body.getD .skip)) = true := by kernel_rfl
theorem tie87 (C : Cb) (a0 : V) (H : Hp) (R : List V → Hp → Prop) : wpG Try.prog C an87 (Try.f87.body.getD .skip) (argF [a0]) H (retG Try.prog C Try.f87 R) (fun _ _ _ => False) (retG Try.prog C Try.f87 R) = vc87 C a0 H R := by kernel_rfl
theorem mk87 (a0 : V) {H : Hp} {v : V} {H1 : Hp} (hd : v.Nd) (hn : H.length ≤ H1.length) (hb : H1 = H ∨ ∀ (b : Nat) (blk : Blk), H1[b]? = some blk → H[b]? = some blk ∨ BelB H1.length blk) (h : vc87 (real Try.prog) a0 H (retF v H1)) : Ret Try.prog 87 [a0] H v H1 :=
 ret_mk (an := an87) hm Try.call87 Try.func87 rfl wf87 hd hn hb (Eq.mpr (tie87 (real Try.prog) a0 H (retF v H1)) h)
def an88 : An := { imm := [], jn := [], lp := [], loud := [], ord := [] }
def vc88 (C : Cb) (a0 a1 : V) (H : Hp) (R : List V → Hp → Prop) : Prop :=
 C.callE 107 [a0.nod.nod, a1.nod.nod] H fun v1 H2 =>
 C.aBin (Try.prog.underlying 3) .geq v1.nod (I 0) fun v3 =>
 R [v3] H2
theorem wf88 : (Nat.ble 2 Try.f88.ntmps && wfC an88 Try.f88.ntmps (Try.f88.body.getD .skip)) = true := by kernel_rfl
theorem tie88 (C : Cb) (a0 a1 : V) (H : Hp) (R : List V → Hp → Prop) : wpG Try.prog C an88 (Try.f88.body.getD .skip) (argF [a0, a1]) H (retG Try.prog C Try.f88 R) (fun _ _ _ => False) (retG Try.prog C Try.f88 R) = vc88 C a0 a1 H R := by kernel_rfl
theorem mk88 (a0 a1 : V) {H : Hp} {v : V} {H1 : Hp} (hd : v.Nd) (hn : H.length ≤ H1.length) (hb : H1 = H ∨ ∀ (b : Nat) (blk : Blk), H1[b]? = some blk → H[b]? = some blk ∨ BelB H1.length blk) (h : vc88 (real Try.prog) a0 a1 H (retF v H1)) : Ret Try.prog 88 [a0, a1] H v H1 :=
 ret_mk (an := an88) hm Try.call88 Try.func88 rfl wf88 hd hn hb (Eq.mpr (tie88 (real Try.prog) a0 a1 H (retF v H1)) h)
def an89 : An := { imm := [1], jn := [], lp := [], loud := [], ord := [] }
def vc89 (C : Cb) (a0 : V) (H : Hp) (R : List V → Hp → Prop) : Prop :=
 C.aBx true 3 a0.nod H fun v1 H2 =>
 C.aFA 0 1 false v1.nod fun v3 =>
 C.aLd 1 false false v3.nod H2 fun v4 H5 =>
 C.aBin (Try.prog.underlying 96) .lss v4.nod (I 1) fun v6 =>
 Jv (fun v7 H8 =>
 Jv (fun v14 H15 =>
 Jv (fun v23 H24 =>
 R [v23] H24)
 (fun R25 =>
 aG v14.nod false (
 C.aFA 2 1 false v1.nod fun v26 =>
 C.aLd 1 false false v26.nod H15 fun v27 H28 =>
 C.callE 55 [v27.nod, (I 0), (I 400)] H28 fun v29 H30 =>
 C.aUn .not v29.nod fun v31 =>
 R25 v31.nod H30) (
 R25 (B true) H15)))
 (fun R16 =>
 aG v7.nod false (
 C.aFA 1 1 false v1.nod fun v17 =>
 C.aLd 1 false false v17.nod H8 fun v18 H19 =>
 C.callE 55 [v18.nod, (I 1), (I 2)] H19 fun v20 H21 =>
 C.aUn .not v20.nod fun v22 =>
 R16 v22.nod H21) (
 R16 (B true) H8)))
 (fun R9 =>
 aG v6.nod false (
 C.aFA 0 1 false v1.nod fun v10 =>
 C.aLd 1 false false v10.nod H5 fun v11 H12 =>
 C.aBin (Try.prog.underlying 96) .gtr v11.nod (I 6) fun v13 =>
 R9 v13.nod H12) (
 R9 (B true) H5))
theorem wf89 : (Nat.ble 1 Try.f89.ntmps && wfC an89 Try.f89.ntmps (Try.f89.body.getD .skip)) = true := by kernel_rfl
theorem tie89 (C : Cb) (a0 : V) (H : Hp) (R : List V → Hp → Prop) : wpG Try.prog C an89 (Try.f89.body.getD .skip) (argF [a0]) H (retG Try.prog C Try.f89 R) (fun _ _ _ => False) (retG Try.prog C Try.f89 R) = vc89 C a0 H R := by kernel_rfl
theorem mk89 (a0 : V) {H : Hp} {v : V} {H1 : Hp} (hd : v.Nd) (hn : H.length ≤ H1.length) (hb : H1 = H ∨ ∀ (b : Nat) (blk : Blk), H1[b]? = some blk → H[b]? = some blk ∨ BelB H1.length blk) (h : vc89 (real Try.prog) a0 H (retF v H1)) : Ret Try.prog 89 [a0] H v H1 :=
 ret_mk (an := an89) hm Try.call89 Try.func89 rfl wf89 hd hn hb (Eq.mpr (tie89 (real Try.prog) a0 H (retF v H1)) h)
def an98 : An := { imm := [], jn := [], lp := [], loud := [], ord := [] }
def vc98 (C : Cb) (a0 : V) (H : Hp) (R : List V → Hp → Prop) : Prop :=
 C.callE 79 [a0.nod.nod, (V.fn 116 [])] H fun v1 H2 =>
 R [v1] H2
theorem wf98 : (Nat.ble 1 Try.f98.ntmps && wfC an98 Try.f98.ntmps (Try.f98.body.getD .skip)) = true := by kernel_rfl
theorem tie98 (C : Cb) (a0 : V) (H : Hp) (R : List V → Hp → Prop) : wpG Try.prog C an98 (Try.f98.body.getD .skip) (argF [a0]) H (retG Try.prog C Try.f98 R) (fun _ _ _ => False) (retG Try.prog C Try.f98 R) = vc98 C a0 H R := by kernel_rfl
theorem mk98 (a0 : V) {H : Hp} {v : V} {H1 : Hp} (hd : v.Nd) (hn : H.length ≤ H1.length) (hb : H1 = H ∨ ∀ (b : Nat) (blk : Blk), H1[b]? = some blk → H[b]? = some blk ∨ BelB H1.length blk) (h : vc98 (real Try.prog) a0 H (retF v H1)) : Ret Try.prog 98 [a0] H v H1 :=
 ret_mk (an := an98) hm Try.call98 Try.func98 rfl wf98 hd hn hb (Eq.mpr (tie98 (real Try.prog) a0 H (retF v H1)) h)
def an99 : An := { imm := [], jn := [], lp := [], loud := [], ord := [] }
def vc99 (C : Cb) (a0 : V) (H : Hp) (R : List V → Hp → Prop) : Prop :=
 C.callE 55 [a0.nod.nod, (I 1), (I 1000)] H fun v1 H2 =>
 C.aUn .not v1.nod fun v3 =>
 R [v3] H2
theorem wf99 : (Nat.ble 1 Try.f99.ntmps && wfC an99 Try.f99.ntmps (Try.f99.body.getD .skip)) = true := by kernel_rfl
theorem tie99 (C : Cb) (a0 : V) (H : Hp) (R : List V → Hp → Prop) : wpG Try.prog C an99 (Try.f99.body.getD .skip) (argF [a0]) H (retG Try.prog C Try.f99 R) (fun _ _ _ => False) (retG Try.prog C Try.f99 R) = vc99 C a0 H R := by kernel_rfl
theorem mk99 (a0 : V) {H : Hp} {v : V} {H1 : Hp} (hd : v.Nd) (hn : H.length ≤ H1.length) (hb : H1 = H ∨ ∀ (b : Nat) (blk : Blk), H1[b]? = some blk → H[b]? = some blk ∨ BelB H1.length blk) (h : vc99 (real Try.prog) a0 H (retF v H1)) : Ret Try.prog 99 [a0] H v H1 :=
 ret_mk (an := an99) hm Try.call99 Try.func99 rfl wf99 hd hn hb (Eq.mpr (tie99 (real Try.prog) a0 H (retF v H1)) h)
def an104 : An := { imm := [], jn := [], lp := [(2, [0, 1, 7, 8])], loud := [], ord := [] }
def vc104 (C : Cb) (a0 a1 : V) (H : Hp) (R : List V → Hp → Prop) : Prop :=
 C.aLen a0.nod.nod fun v1 =>
 LoopA (fun l2 H3 K4 =>
 C.aBin (Try.prog.underlying 3) .lss (l2.getD 3 .junk).nod (l2.getD 2 .junk).nod fun v5 =>
 aCond v5.nod (
 C.aIx 1 (l2.getD 0 .junk).nod.nod (l2.getD 3 .junk).nod.nod.nod fun v6 =>
 C.aLd 1 false false v6.nod H3 fun v7 H8 =>
 aCallEG C (l2.getD 1 .junk).nod.nod [v7.nod] H8 fun v9 H10 =>
 aCond v9.nod (
 R [(l2.getD 3 .junk).nod.nod] H10) (
 C.aBin (Try.prog.underlying 3) .add (l2.getD 3 .junk).nod (I 1) fun v11 =>
 K4 [(l2.getD 0 .junk), (l2.getD 1 .junk), (l2.getD 2 .junk), v11.nod] H10)) (
 R [(I (-1))] H3))
 [a0, a1, v1, (I 0)] H
theorem wf104 : (Nat.ble 2 Try.f104.ntmps && wfC an104 Try.f104.ntmps (Try.f104.body.getD .skip)) = true := by kernel_rfl
theorem tie104 (C : Cb) (a0 a1 : V) (H : Hp) (R : List V → Hp → Prop) : wpG Try.prog C an104 (Try.f104.body.getD .skip) (argF [a0, a1]) H (retG Try.prog C Try.f104 R) (fun _ _ _ => False) (retG Try.prog C Try.f104 R) = vc104 C a0 a1 H R := by kernel_rfl
theorem mk104 (a0 a1 : V) {H : Hp} {v : V} {H1 : Hp} (hd : v.Nd) (hn : H.length ≤ H1.length) (hb : H1 = H ∨ ∀ (b : Nat) (blk : Blk), H1[b]? = some blk → H[b]? = some blk ∨ BelB H1.length blk) (h : vc104 (real Try.prog) a0 a1 H (retF v H1)) : Ret Try.prog 104 [a0, a1] H v H1 :=
 ret_mk (an := an104) hm Try.call104 Try.func104 rfl wf104 hd hn hb (Eq.mpr (tie104 (real Try.prog) a0 a1 H (retF v H1)) h)
def an105 : An := { imm := [], jn := [], lp := [(2, [0, 1, 7, 8])], loud := [], ord := [] }
def vc105 (C : Cb) (a0 a1 : V) (H : Hp) (R : List V → Hp → Prop) : Prop :=
 C.aLen a0.nod.nod fun v1 =>
 LoopA (fun l2 H3 K4 =>
 C.aBin (Try.prog.underlying 3) .lss (l2.getD 3 .junk).nod (l2.getD 2 .junk).nod fun v5 =>
 aCond v5.nod (
 C.aIx 1 (l2.getD 0 .junk).nod.nod (l2.getD 3 .junk).nod.nod.nod fun v6 =>
 C.aLd 1 false false v6.nod H3 fun v7 H8 =>
 aCallEG C (l2.getD 1 .junk).nod.nod [v7.nod] H8 fun v9 H10 =>
 aCond v9.nod (
 R [(l2.getD 3 .junk).nod.nod] H10) (
 C.aBin (Try.prog.underlying 3) .add (l2.getD 3 .junk).nod (I 1) fun v11 =>
 K4 [(l2.getD 0 .junk), (l2.getD 1 .junk), (l2.getD 2 .junk), v11.nod] H10)) (
 R [(I (-1))] H3))
 [a0, a1, v1, (I 0)] H
theorem wf105 : (Nat.ble 2 Try.f105.ntmps && wfC an105 Try.f105.ntmps (Try.f105.body.getD .skip)) = true := by kernel_rfl
theorem tie105 (C : Cb) (a0 a1 : V) (H : Hp) (R : List V → Hp → Prop) : wpG Try.prog C an105 (Try.f105.body.getD .skip) (argF [a0, a1]) H (retG Try.prog C Try.f105 R) (fun _ _ _ => False) (retG Try.prog C Try.f105 R) = vc105 C a0 a1 H R := by kernel_rfl
theorem mk105 (a0 a1 : V) {H : Hp} {v : V} {H1 : Hp} (hd : v.Nd) (hn : H.length ≤ H1.length) (hb : H1 = H ∨ ∀ (b : Nat) (blk : Blk), H1[b]? = some blk → H[b]? = some blk ∨ BelB H1.length blk) (h : vc105 (real Try.prog) a0 a1 H (retF v H1)) : Ret Try.prog 105 [a0, a1] H v H1 :=
 ret_mk (an := an105) hm Try.call105 Try.func105 rfl wf105 hd hn hb (Eq.mpr (tie105 (real Try.prog) a0 a1 H (retF v H1)) h)
def an106 : An := { imm := [], jn := [], lp := [(2, [0, 1, 7, 8])], loud := [], ord := [] }
def vc106 (C : Cb) (a0 a1 : V) (H : Hp) (R : List V → Hp → Prop) : Prop :=
 C.aLen a0.nod.nod fun v1 =>
 LoopA (fun l2 H3 K4 =>
 C.aBin (Try.prog.underlying 3) .lss (l2.getD 3 .junk).nod (l2.getD 2 .junk).nod fun v5 =>
 aCond v5.nod (
 C.aIx 5 (l2.getD 0 .junk).nod.nod (l2.getD 3 .junk).nod.nod.nod fun v6 =>
 C.aLd 5 true false v6.nod H3 fun v7 H8 =>
 aCallEG C (l2.getD 1 .junk).nod.nod [v7.nod] H8 fun v9 H10 =>
 aCond v9.nod (
 R [(l2.getD 3 .junk).nod.nod] H10) (
 C.aBin (Try.prog.underlying 3) .add (l2.getD 3 .junk).nod (I 1) fun v11 =>
 K4 [(l2.getD 0 .junk), (l2.getD 1 .junk), (l2.getD 2 .junk), v11.nod] H10)) (
 R [(I (-1))] H3))
 [a0, a1, v1, (I 0)] H
theorem wf106 : (Nat.ble 2 Try.f106.ntmps && wfC an106 Try.f106.ntmps (Try.f106.body.getD .skip)) = true := by kernel_rfl
theorem tie106 (C : Cb) (a0 a1 : V) (H : Hp) (R : List V → Hp → Prop) : wpG Try.prog C an106 (Try.f106.body.getD .skip) (argF [a0, a1]) H (retG Try.prog C Try.f106 R) (fun _ _ _ => False) (retG Try.prog C Try.f106 R) = vc106 C a0 a1 H R := by kernel_rfl
theorem mk106 (a0 a1 : V) {H : Hp} {v : V} {H1 : Hp} (hd : v.Nd) (hn : H.length ≤ H1.length) (hb : H1 = H ∨ ∀ (b : Nat) (blk : Blk), H1[b]? = some blk → H[b]? = some blk ∨ BelB H1.length blk) (h : vc106 (real Try.prog) a0 a1 H (retF v H1)) : Ret Try.prog 106 [a0, a1] H v H1 :=
 ret_mk (an := an106) hm Try.call106 Try.func106 rfl wf106 hd hn hb (Eq.mpr (tie106 (real Try.prog) a0 a1 H (retF v H1)) h)
def an107 : An := { imm := [], jn := [], lp := [(2, [0, 1, 7, 8])], loud := [], ord := [] }
def vc107 (C : Cb) (a0 a1 : V) (H : Hp) (R : List V → Hp → Prop) : Prop :=
 C.aLen a0.nod.nod fun v1 =>
 LoopA (fun l2 H3 K4 =>
 C.aBin (Try.prog.underlying 3) .lss (l2.getD 3 .junk).nod (l2.getD 2 .junk).nod fun v5 =>
 aCond v5.nod (
 C.aIx 3 (l2.getD 0 .junk).nod.nod (l2.getD 3 .junk).nod.nod.nod fun v6 =>
 C.aLd 3 true false v6.nod H3 fun v7 H8 =>
 aCallEG C (l2.getD 1 .junk).nod.nod [v7.nod] H8 fun v9 H10 =>
 aCond v9.nod (
 R [(l2.getD 3 .junk).nod.nod] H10) (
 C.aBin (Try.prog.underlying 3) .add (l2.getD 3 .junk).nod (I 1) fun v11 =>
 K4 [(l2.getD 0 .junk), (l2.getD 1 .junk), (l2.getD 2 .junk), v11.nod] H10)) (
 R [(I (-1))] H3))
 [a0, a1, v1, (I 0)] H
theorem wf107 : (Nat.ble 2 Try.f107.ntmps && wfC an107 Try.f107.ntmps (Try.f107.body.getD .skip)) = true := by kernel_rfl
theorem tie107 (C : Cb) (a0 a1 : V) (H : Hp) (R : List V → Hp → Prop) : wpG Try.prog C an107 (Try.f107.body.getD .skip) (argF [a0, a1]) H (retG Try.prog C Try.f107 R) (fun _ _ _ => False) (retG Try.prog C Try.f107 R) = vc107 C a0 a1 H R := by kernel_rfl
theorem mk107 (a0 a1 : V) {H : Hp} {v : V} {H1 : Hp} (hd : v.Nd) (hn : H.length ≤ H1.length) (hb : H1 = H ∨ ∀ (b : Nat) (blk : Blk), H1[b]? = some blk → H[b]? = some blk ∨ BelB H1.length blk) (h : vc107 (real Try.prog) a0 a1 H (retF v H1)) : Ret Try.prog 107 [a0, a1] H v H1 :=
 ret_mk (an := an107) hm Try.call107 Try.func107 rfl wf107 hd hn hb (Eq.mpr (tie107 (real Try.prog) a0 a1 H (retF v H1)) h)
def an114 : An := { imm := [5], jn := [], lp := [(3, [3, 6, 7, 8])], loud := [], ord := [] }
def vc114 (C : Cb) (a0 : V) (H : Hp) (R : List V → Hp → Prop) : Prop :=
 C.aLen a0.nod.nod fun v1 =>
 LoopA (fun l2 H3 K4 =>
 C.aBin (Try.prog.underlying 3) .lss (l2.getD 3 .junk).nod (l2.getD 2 .junk).nod fun v5 =>
 aCond v5.nod (
 C.aIx 5 (l2.getD 1 .junk).nod (l2.getD 3 .junk).nod fun v6 =>
 C.aLd 5 true false v6.nod H3 fun v7 H8 =>
 C.aBx true 5 v7.nod H8 fun v9 H10 =>
 C.aFA 0 1 false v9.nod fun v11 =>
 C.aLd 1 false false v11.nod H10 fun v12 H13 =>
 C.aBin (Try.prog.underlying 3) .add (l2.getD 0 .junk).nod.nod v12.nod fun v14 =>
 C.aBin (Try.prog.underlying 3) .add (l2.getD 3 .junk).nod (I 1) fun v15 =>
 K4 [v14, (l2.getD 1 .junk), (l2.getD 2 .junk), v15.nod] H13) (
 R [(l2.getD 0 .junk).nod] H3))
 [(I 0), a0.nod, v1, (I 0)] H
theorem wf114 : (Nat.ble 1 Try.f114.ntmps && wfC an114 Try.f114.ntmps (Try.f114.body.getD .skip)) = true := by kernel_rfl
theorem tie114 (C : Cb) (a0 : V) (H : Hp) (R : List V → Hp → Prop) : wpG Try.prog C an114 (Try.f114.body.getD .skip) (argF [a0]) H (retG Try.prog C Try.f114 R) (fun _ _ _ => False) (retG Try.prog C Try.f114 R) = vc114 C a0 H R := by kernel_rfl
theorem mk114 (a0 : V) {H : Hp} {v : V} {H1 : Hp} (hd : v.Nd) (hn : H.length ≤ H1.length) (hb : H1 = H ∨ ∀ (b : Nat) (blk : Blk), H1[b]? = some blk → H[b]? = some blk ∨ BelB H1.length blk) (h : vc114 (real Try.prog) a0 H (retF v H1)) : Ret Try.prog 114 [a0] H v H1 :=
 ret_mk (an := an114) hm Try.call114 Try.func114 rfl wf114 hd hn hb (Eq.mpr (tie114 (real Try.prog) a0 H (retF v H1)) h)
def an116 : An := { imm := [], jn := [], lp := [], loud := [], ord := [] }
def vc116 (C : Cb) (a0 : V) (H : Hp) (R : List V → Hp → Prop) : Prop :=
 C.callE 55 [a0.nod.nod, (I 0), (I 10000)] H fun v1 H2 =>
 C.aUn .not v1.nod fun v3 =>
 R [v3] H2
theorem wf116 : (Nat.ble 1 Try.f116.ntmps && wfC an116 Try.f116.ntmps (Try.f116.body.getD .skip)) = true := by kernel_rfl
theorem tie116 (C : Cb) (a0 : V) (H : Hp) (R : List V → Hp → Prop) : wpG Try.prog C an116 (Try.f116.body.getD .skip) (argF [a0]) H (retG Try.prog C Try.f116 R) (fun _ _ _ => False) (retG Try.prog C Try.f116 R) = vc116 C a0 H R := by kernel_rfl
theorem mk116 (a0 : V) {H : Hp} {v : V} {H1 : Hp} (hd : v.Nd) (hn : H.length ≤ H1.length) (hb : H1 = H ∨ ∀ (b : Nat) (blk : Blk), H1[b]? = some blk → H[b]? = some blk ∨ BelB H1.length blk) (h : vc116 (real Try.prog) a0 H (retF v H1)) : Ret Try.prog 116 [a0] H v H1 :=
 ret_mk (an := an116) hm Try.call116 Try.func116 rfl wf116 hd hn hb (Eq.mpr (tie116 (real Try.prog) a0 H (retF v H1)) h)
def an16 : An := { imm := [2], jn := [(2, [1, 2, 25]), (11, [1, 2, 6, 7, 9, 29, 30, 31]), (15, [1, 2, 6, 9, 11, 29, 30, 31]), (16, [1, 2, 6, 9, 29, 30, 31]), (20, [6])], lp := [(7, [1, 2, 6, 29, 30, 31])], loud := [62, 73], ord := [] }
def vc16 (C : Cb) (a0 a1 : V) (H : Hp) (R : List V → Hp → Prop) : Prop :=
 C.aBx true 3 a0.nod H fun v1 H2 =>
 Jn (fun l3 H4 =>
 aCond (l3.getD 2 .junk).nod (
 R [(V.arr [] .full), (I 2)] H4) (
 C.aLen (l3.getD 0 .junk).nod.nod fun v6 =>
 C.aBin (Try.prog.underlying 3) .eql v6.nod (I 0) fun v7 =>
 aCond v7.nod (
 R [(V.arr [] .full), (I 0)] H4) (
 C.aLen (l3.getD 0 .junk).nod.nod fun v8 =>
 LoopA (fun l9 H10 K11 =>
 C.aBin (Try.prog.underlying 3) .lss (l9.getD 5 .junk).nod (l9.getD 4 .junk).nod fun v12 =>
 aCond v12.nod (
 C.aIx 1 (l9.getD 3 .junk).nod (l9.getD 5 .junk).nod fun v13 =>
 C.aLd 1 false false v13.nod H10 fun v14 H15 =>
 C.aLd 3 true false (l9.getD 1 .junk).nod H15 fun v16 H17 =>
 C.callE 51 [v16.nod, v14.nod.nod] H17 fun v18 H19 =>
 C.aUn .not v18.nod fun v20 =>
 aCond v20.nod (
 C.aBin (Try.prog.underlying 3) .add (l9.getD 5 .junk).nod (I 1) fun v21 =>
 K11 [(l9.getD 0 .junk), (l9.getD 1 .junk), (l9.getD 2 .junk), (l9.getD 3 .junk), (l9.getD 4 .junk), v21.nod] H19) (
 Jn (fun l22 H23 =>
 Jn (fun l25 H26 =>
 C.aLd 3 true false (l25.getD 3 .junk).nod H26 fun v28 H29 =>
 C.aBS 3 1 (V.agg [(I 0), (I 0), (I 0)]) [(0, v28.nod)] fun v30 =>
 C.aAppS 3 24 (l25.getD 2 .junk) v30.nod H29 fun v31 H32 =>
 C.aBin (Try.prog.underlying 3) .add (l25.getD 6 .junk).nod (I 1) fun v33 =>
 K11 [(l25.getD 0 .junk), (l25.getD 1 .junk), v31, (l25.getD 4 .junk), (l25.getD 5 .junk), v33.nod] H32)
 (fun R27 =>
 C.aLen (l22.getD 2 .junk).nod.nod fun v34 =>
 C.aBin (Try.prog.underlying 3) .gtr v34.nod.nod (I 0) fun v35 =>
 aCond v35.nod (
 C.aBin (Try.prog.underlying 3) .sub v34.nod.nod (I 1) fun v36 =>
 C.aIx 3 (l22.getD 2 .junk).nod.nod v36.nod fun v37 =>
 Jn (fun l38 H39 =>
 C.aFA 0 1 false (l38.getD 3 .junk).nod fun v41 =>
 C.aLd 1 false false v41.nod H39 fun v42 H43 =>
 C.aNC (l38.getD 4 .junk).nod.nod fun v44 =>
 C.aFA 2 1 false v44.nod fun v45 =>
 C.aSt 1 v45.nod v42 H43 fun v46 H47 =>
 R27 [(l38.getD 0 .junk), (l38.getD 1 .junk), (l38.getD 2 .junk), (l38.getD 3 .junk), (l38.getD 5 .junk), (l38.getD 6 .junk), (l38.getD 7 .junk)] H47)
 (fun R40 =>
 C.aLd 3 true false (l22.getD 1 .junk).nod H23 fun v48 H49 =>
 C.aNC v37.nod.nod fun v50 =>
 C.aFA 1 1 false v50.nod fun v51 =>
 C.aLd 1 false false v51.nod H49 fun v52 H53 =>
 C.aBin (Try.prog.underlying 3) .add v52.nod (I 1) fun v54 =>
 C.aSlc 1 (l22.getD 0 .junk).nod.nod (some v54.nod) (some (l22.getD 3 .junk).nod.nod) none fun v55 =>
 C.call 52 [v48.nod, v55.nod] H53 fun v56 H57 =>
 C.aBin (Try.prog.underlying 3) .sub (l22.getD 3 .junk).nod.nod v56.nod fun v58 =>
 C.aFA 0 1 false (l22.getD 4 .junk).nod fun v59 =>
 C.aSt 1 v59.nod v58 H57 fun v60 H61 =>
 R40 [(l22.getD 0 .junk), (l22.getD 1 .junk), (l22.getD 2 .junk), (l22.getD 4 .junk), v37, (l22.getD 5 .junk), (l22.getD 6 .junk), (l22.getD 7 .junk)] H61)) (
 R27 [(l22.getD 0 .junk), (l22.getD 1 .junk), (l22.getD 2 .junk), (l22.getD 4 .junk), (l22.getD 5 .junk), (l22.getD 6 .junk), (l22.getD 7 .junk)] H23)))
 (fun R24 =>
 C.aLen (l9.getD 0 .junk).nod.nod fun v62 =>
 C.aBd [(I 0), (I 0), (I 0)] [(1, 1, (l9.getD 5 .junk).nod.nod.nod.nod), (2, 1, v62.nod.nod)] fun v63 =>
 C.aBx false 3 (V.agg [(I 0), (I 0), (I 0)]) H19 fun v64 H65 =>
 C.aSt 3 v64.nod v63 H65 fun v66 H67 =>
 R24 [(l9.getD 0 .junk), (l9.getD 1 .junk), (l9.getD 2 .junk), (l9.getD 5 .junk).nod, v64, (l9.getD 3 .junk), (l9.getD 4 .junk), (l9.getD 5 .junk)] H67))) (
 Jn (fun l68 H69 =>
 R [(l68.getD 0 .junk).nod, (I 0)] H69)
 (fun R70 =>
 C.aLen (l9.getD 2 .junk).nod.nod fun v71 =>
 C.aBin (Try.prog.underlying 3) .eql v71.nod (I 0) fun v72 =>
 aCond v72.nod (
 C.aLen (l9.getD 0 .junk).nod.nod fun v73 =>
 C.aBd [(I 0), (I 0), (I 0)] [(1, 1, (I (-1))), (2, 1, v73.nod.nod)] fun v74 =>
 C.aBS 3 1 (V.agg [(I 0), (I 0), (I 0)]) [(0, v74.nod)] fun v75 =>
 R70 [v75] H10) (
 R70 [(l9.getD 2 .junk)] H10))))
 [(l3.getD 0 .junk), (l3.getD 1 .junk), (V.arr [] .full), (l3.getD 0 .junk).nod, v8, (I 0)] H4)))
 (fun R5 =>
 C.aLd 3 true false v1.nod H2 fun v76 H77 =>
 C.callE 49 [v76.nod] H77 fun v78 H79 =>
 C.aUn .not v78.nod fun v80 =>
 Jv (fun v81 H82 =>
 Jv (fun v86 H87 =>
 R5 [a1, v1, v86] H87)
 (fun R88 =>
 aG v81.nod false (
 C.aLd 3 true false v1.nod H82 fun v89 H90 =>
 C.callE 50 [v89.nod, a1.nod.nod] H90 fun v91 H92 =>
 C.aUn .not v91.nod fun v93 =>
 R88 v93.nod H92) (
 R88 (B true) H82)))
 (fun R83 =>
 aG v80.nod false (
 C.aLen a1.nod.nod fun v84 =>
 C.aBin (Try.prog.underlying 3) .gtr v84.nod (I 400) fun v85 =>
 R83 v85.nod H79) (
 R83 (B true) H79)))
theorem wf16 : (Nat.ble 2 Try.f16.ntmps && wfC an16 Try.f16.ntmps (Try.f16.body.getD .skip)) = true := by kernel_rfl
theorem tie16 (C : Cb) (a0 a1 : V) (H : Hp) (R : List V → Hp → Prop) : wpG Try.prog C an16 (Try.f16.body.getD .skip) (argF [a0, a1]) H (retG Try.prog C Try.f16 R) (fun _ _ _ => False) (retG Try.prog C Try.f16 R) = vc16 C a0 a1 H R := by kernel_rfl
theorem mk16 (a0 a1 : V) {H : Hp} {v : V} {H1 : Hp} (hd : v.Nd) (hn : H.length ≤ H1.length) (hb : H1 = H ∨ ∀ (b : Nat) (blk : Blk), H1[b]? = some blk → H[b]? = some blk ∨ BelB H1.length blk) (h : vc16 (real Try.prog) a0 a1 H (retF v H1)) : Ret Try.prog 16 [a0, a1] H v H1 :=
 ret_mk (an := an16) hm Try.call16 Try.func16 rfl wf16 hd hn hb (Eq.mpr (tie16 (real Try.prog) a0 a1 H (retF v H1)) h)
def an52 : An := { imm := [2, 3], jn := [], lp := [(2, [2, 3, 5])], loud := [], ord := [] }
def vc52 (C : Cb) (a0 a1 : V) (H : Hp) (R : List V → Hp → Prop) : Prop :=
 C.aBx true 3 a0.nod H fun v1 H2 =>
 C.aBx true 1 a1.nod H2 fun v3 H4 =>
 C.aLd 1 false false v3.nod H4 fun v5 H6 =>
 C.aLen v5.nod fun v7 =>
 C.aMM false [(I 4), v7.nod] fun v8 =>
 C.aBx false 1 (I 0) H6 fun v9 H10 =>
 C.aSt 1 v9.nod v8 H10 fun v11 H12 =>
 LoopA (fun l13 H14 K15 =>
 C.aLd 1 false false (l13.getD 2 .junk).nod H14 fun v16 H17 =>
 C.aBin (Try.prog.underlying 3) .gtr v16.nod (I 0) fun v18 =>
 aCond v18.nod (
 C.aFA 2 1 false (l13.getD 0 .junk).nod fun v19 =>
 C.aLd 1 false false v19.nod H17 fun v20 H21 =>
 C.callE 83 [v20.nod, (V.fn 84 [(l13.getD 1 .junk).nod, (l13.getD 2 .junk).nod])] H21 fun v22 H23 =>
 aCond v22.nod (
 C.aLd 1 false false (l13.getD 2 .junk).nod H23 fun v24 H25 =>
 R [v24] H25) (
 C.aLd 1 false false (l13.getD 2 .junk).nod H23 fun v26 H27 =>
 C.aBx false 1 (I 0) H27 fun v28 H29 =>
 C.aSt 1 v28.nod v26 H29 fun v30 H31 =>
 C.aLd 1 false false v28.nod H31 fun v32 H33 =>
 C.aBin (Try.prog.underlying 3) .sub v32.nod (I 1) fun v34 =>
 C.aSt 1 v28.nod v34 H33 fun v35 H36 =>
 K15 [(l13.getD 0 .junk), (l13.getD 1 .junk), v28] H36)) (
 R [(I 0)] H17))
 [v1, v3, v9] H12
theorem wf52 : (Nat.ble 2 Try.f52.ntmps && wfC an52 Try.f52.ntmps (Try.f52.body.getD .skip)) = true := by kernel_rfl
theorem tie52 (C : Cb) (a0 a1 : V) (H : Hp) (R : List V → Hp → Prop) : wpG Try.prog C an52 (Try.f52.body.getD .skip) (argF [a0, a1]) H (retG Try.prog C Try.f52 R) (fun _ _ _ => False) (retG Try.prog C Try.f52 R) = vc52 C a0 a1 H R := by kernel_rfl
theorem mk52 (a0 a1 : V) {H : Hp} {v : V} {H1 : Hp} (hd : v.Nd) (hn : H.length ≤ H1.length) (hb : H1 = H ∨ ∀ (b : Nat) (blk : Blk), H1[b]? = some blk → H[b]? = some blk ∨ BelB H1.length blk) (h : vc52 (real Try.prog) a0 a1 H (retF v H1)) : Ret Try.prog 52 [a0, a1] H v H1 :=
 ret_mk (an := an52) hm Try.call52 Try.func52 rfl wf52 hd hn hb (Eq.mpr (tie52 (real Try.prog) a0 a1 H (retF v H1)) h)
def an22 : An := { imm := [2, 7], jn := [(2, [1, 2, 39]), (6, [1, 2, 7]), (10, [1, 2, 7, 8, 9]), (13, [1, 2, 7, 8, 10, 11]), (17, [2, 8, 10]), (21, [2, 10, 12, 13]), (24, [10, 12])], lp := [(13, [1, 2, 7, 8, 10, 11]), (21, [2, 10, 12, 13])], loud := [92], ord := [] }
def vc22 (C : Cb) (a0 a1 : V) (H : Hp) (R : List V → Hp → Prop) : Prop :=
 C.aBx true 5 a0.nod H fun v1 H2 =>
 Jn (fun l3 H4 =>
 aCond (l3.getD 2 .junk).nod (
 R [(I 0), (V.arr [] .full), (I 2)] H4) (
 C.aLen (l3.getD 0 .junk).nod.nod fun v6 =>
 C.aBx true 1 v6.nod H4 fun v7 H8 =>
 Jn (fun l9 H10 =>
 Jn (fun l12 H13 =>
 C.aFA 2 1 false (l12.getD 1 .junk).nod fun v15 =>
 C.aLd 1 false false v15.nod H13 fun v16 H17 =>
 C.aBin (Try.prog.underlying 3) .add (l12.getD 4 .junk).nod.nod v16.nod fun v18 =>
 C.aLd 1 false false (l12.getD 2 .junk).nod H17 fun v19 H20 =>
 C.aBin (Try.prog.underlying 3) .sub v19.nod (I 1) fun v21 =>
 C.aMM false [v18.nod, v21.nod] fun v22 =>
 Jn (fun l23 H24 =>
 aCallEG C (l23.getD 1 .junk).nod.nod [(l23.getD 2 .junk).nod.nod] H24 fun v26 H27 =>
 Jn (fun l28 H29 =>
 C.callE 57 [(l28.getD 1 .junk).nod.nod] H29 fun v31 H32 =>
 R [(l28.getD 0 .junk).nod, (l28.getD 1 .junk).nod, (I 0)] H32)
 (fun R30 =>
 C.aFA 4 1 false (l23.getD 0 .junk).nod fun v33 =>
 C.aLd 1 false false v33.nod H27 fun v34 H35 =>
 C.aBin (Try.prog.underlying 3) .gtr v34.nod (I 0) fun v36 =>
 aCond v36.nod (
 Jn (fun l37 H38 =>
 LoopA (fun l40 H41 K42 =>
 C.aBin (Try.prog.underlying 3) .geq (l40.getD 3 .junk).nod.nod (I 0) fun v43 =>
 aCond v43.nod (
 C.aBS 1 1 (I 0) [(0, (l40.getD 3 .junk).nod.nod)] fun v44 =>
 C.aAppS 1 8 (l40.getD 2 .junk) v44.nod H41 fun v45 H46 =>
 C.aFA 4 1 false (l40.getD 0 .junk).nod fun v47 =>
 C.aLd 1 false false v47.nod H46 fun v48 H49 =>
 C.aBin (Try.prog.underlying 3) .sub (l40.getD 3 .junk).nod.nod v48.nod fun v50 =>
 K42 [(l40.getD 0 .junk), (l40.getD 1 .junk), v45, v50] H49) (
 R30 [(l40.getD 1 .junk), (l40.getD 2 .junk)] H41))
 [(l37.getD 0 .junk), (l37.getD 1 .junk), (l37.getD 2 .junk), (l37.getD 3 .junk)] H38)
 (fun R39 =>
 C.aFA 4 1 false (l23.getD 0 .junk).nod fun v51 =>
 C.aLd 1 false false v51.nod H35 fun v52 H53 =>
 C.aBin (Try.prog.underlying 3) .sub v26.nod.nod v52.nod fun v54 =>
 R39 [(l23.getD 0 .junk), v26, (V.arr [] .full), v54] H53)) (
 R30 [v26, (V.arr [] .full)] H35)))
 (fun R25 =>
 C.aFA 3 1 false (l12.getD 1 .junk).nod fun v55 =>
 C.aLd 1 false false v55.nod H20 fun v56 H57 =>
 aCond v56.nod (
 Jn (fun l58 H59 =>
 LoopA (fun l61 H62 K63 =>
 C.aLd 1 false false (l61.getD 2 .junk).nod H62 fun v64 H65 =>
 C.aBin (Try.prog.underlying 3) .lss (l61.getD 5 .junk).nod.nod v64.nod fun v66 =>
 aCond v66.nod (
 aCallEG C (l61.getD 3 .junk).nod.nod [(l61.getD 5 .junk).nod.nod] H65 fun v67 H68 =>
 C.aIx 1 (l61.getD 0 .junk).nod.nod v67.nod fun v69 =>
 C.aLd 1 false false v69.nod H68 fun v70 H71 =>
 aCond v70.nod (
 R25 [(l61.getD 1 .junk), (l61.getD 3 .junk), (l61.getD 5 .junk).nod] H71) (
 C.aBin (Try.prog.underlying 3) .add (l61.getD 5 .junk).nod.nod (I 1) fun v72 =>
 K63 [(l61.getD 0 .junk), (l61.getD 1 .junk), (l61.getD 2 .junk), (l61.getD 3 .junk), (l61.getD 4 .junk), v72] H71)) (
 R25 [(l61.getD 1 .junk), (l61.getD 3 .junk), (l61.getD 4 .junk)] H65))
 [(l58.getD 0 .junk), (l58.getD 1 .junk), (l58.getD 2 .junk), (l58.getD 3 .junk), (l58.getD 4 .junk), (l58.getD 5 .junk)] H59)
 (fun R60 =>
 R60 [(l12.getD 0 .junk), (l12.getD 1 .junk), (l12.getD 2 .junk), (l12.getD 3 .junk), v22, (l12.getD 4 .junk).nod] H57)) (
 R25 [(l12.getD 1 .junk), (l12.getD 3 .junk), v22] H57)))
 (fun R14 =>
 C.aLd 1 false false (l9.getD 2 .junk).nod H10 fun v73 H74 =>
 C.aFA 1 1 false (l9.getD 1 .junk).nod fun v75 =>
 C.aLd 1 false false v75.nod H74 fun v76 H77 =>
 C.aBin (Try.prog.underlying 3) .gtr v73.nod v76.nod fun v78 =>
 aCond v78.nod (
 C.aFA 1 1 false (l9.getD 1 .junk).nod fun v79 =>
 C.aLd 1 false false v79.nod H77 fun v80 H81 =>
 R14 [(l9.getD 0 .junk), (l9.getD 1 .junk), (l9.getD 2 .junk), (V.fn 56 [(l9.getD 1 .junk).nod, (l9.getD 2 .junk).nod]), v80] H81) (
 R14 [(l9.getD 0 .junk), (l9.getD 1 .junk), (l9.getD 2 .junk), (V.fn 56 [(l9.getD 1 .junk).nod, (l9.getD 2 .junk).nod]), (I 0)] H77)))
 (fun R11 =>
 C.aLd 1 false false v7.nod H8 fun v82 H83 =>
 C.aBin (Try.prog.underlying 3) .eql v82.nod (I 0) fun v84 =>
 aCond v84.nod (
 R [(I 0), (V.arr [] .full), (I 5)] H83) (
 R11 [(l3.getD 0 .junk), (l3.getD 1 .junk), v7] H83))))
 (fun R5 =>
 C.aFA 1 1 false v1.nod fun v85 =>
 C.aLd 1 false false v85.nod H2 fun v86 H87 =>
 C.callE 55 [v86.nod, (I 0), (I 2)] H87 fun v88 H89 =>
 C.aUn .not v88.nod fun v90 =>
 Jv (fun v91 H92 =>
 Jv (fun v100 H101 =>
 Jv (fun v113 H114 =>
 R5 [a1, v1, v113] H114)
 (fun R115 =>
 aG v100.nod false (
 C.aLen a1.nod.nod fun v116 =>
 C.aBin (Try.prog.underlying 3) .gtr v116.nod (I 60) fun v117 =>
 R115 v117.nod H101) (
 R115 (B true) H101)))
 (fun R102 =>
 aG v91.nod false (
 C.aFA 4 1 false v1.nod fun v103 =>
 C.aLd 1 false false v103.nod H92 fun v104 H105 =>
 C.aBin (Try.prog.underlying 3) .neq v104.nod (I 0) fun v106 =>
 aG v106.nod true (
 C.aFA 4 1 false v1.nod fun v107 =>
 C.aLd 1 false false v107.nod H105 fun v108 H109 =>
 C.callE 55 [v108.nod, (I 2), (I 3)] H109 fun v110 H111 =>
 C.aUn .not v110.nod fun v112 =>
 R102 v112.nod.nod H111) (
 R102 (B false) H105)) (
 UD = UD ∧
 UD = UD ∧
 UD = UD ∧
 UD = UD ∧
 R102 (B true) H92)))
 (fun R93 =>
 aG v90.nod false (
 C.aFA 2 1 false v1.nod fun v94 =>
 C.aLd 1 false false v94.nod H89 fun v95 H96 =>
 C.callE 55 [v95.nod, (I 0), (I 5)] H96 fun v97 H98 =>
 C.aUn .not v97.nod fun v99 =>
 R93 v99.nod H98) (
 R93 (B true) H89)))
theorem wf22 : (Nat.ble 2 Try.f22.ntmps && wfC an22 Try.f22.ntmps (Try.f22.body.getD .skip)) = true := by kernel_rfl
theorem tie22 (C : Cb) (a0 a1 : V) (H : Hp) (R : List V → Hp → Prop) : wpG Try.prog C an22 (Try.f22.body.getD .skip) (argF [a0, a1]) H (retG Try.prog C Try.f22 R) (fun _ _ _ => False) (retG Try.prog C Try.f22 R) = vc22 C a0 a1 H R := by kernel_rfl
theorem mk22 (a0 a1 : V) {H : Hp} {v : V} {H1 : Hp} (hd : v.Nd) (hn : H.length ≤ H1.length) (hb : H1 = H ∨ ∀ (b : Nat) (blk : Blk), H1[b]? = some blk → H[b]? = some blk ∨ BelB H1.length blk) (h : vc22 (real Try.prog) a0 a1 H (retF v H1)) : Ret Try.prog 22 [a0, a1] H v H1 :=
 ret_mk (an := an22) hm Try.call22 Try.func22 rfl wf22 hd hn hb (Eq.mpr (tie22 (real Try.prog) a0 a1 H (retF v H1)) h)
def an56 : An := { imm := [], jn := [], lp := [], loud := [], ord := [] }
def vc56 (C : Cb) (a0 a1 a2 : V) (H : Hp) (R : List V → Hp → Prop) : Prop :=
 C.aFA 0 1 false a1.nod fun v1 =>
 C.aLd 1 false false v1.nod H fun v2 H3 =>
 aCond v2.nod (
 C.aLd 1 false false a2.nod H3 fun v4 H5 =>
 C.aBin (Try.prog.underlying 3) .sub v4.nod (I 1) fun v6 =>
 C.aBin (Try.prog.underlying 3) .sub v6.nod a0.nod.nod fun v7 =>
 R [v7] H5) (
 R [a0.nod] H3)
theorem wf56 : (Nat.ble 3 Try.f56.ntmps && wfC an56 Try.f56.ntmps (Try.f56.body.getD .skip)) = true := by kernel_rfl
theorem tie56 (C : Cb) (a0 a1 a2 : V) (H : Hp) (R : List V → Hp → Prop) : wpG Try.prog C an56 (Try.f56.body.getD .skip) (argF [a0, a1, a2]) H (retG Try.prog C Try.f56 R) (fun _ _ _ => False) (retG Try.prog C Try.f56 R) = vc56 C a0 a1 a2 H R := by kernel_rfl
theorem mk56 (a0 a1 a2 : V) {H : Hp} {v : V} {H1 : Hp} (hd : v.Nd) (hn : H.length ≤ H1.length) (hb : H1 = H ∨ ∀ (b : Nat) (blk : Blk), H1[b]? = some blk → H[b]? = some blk ∨ BelB H1.length blk) (h : vc56 (real Try.prog) a0 a1 a2 H (retF v H1)) : Ret Try.prog 56 [a0, a1, a2] H v H1 :=
 ret_mk (an := an56) hm Try.call56 Try.func56 rfl wf56 hd hn hb (Eq.mpr (tie56 (real Try.prog) a0 a1 a2 H (retF v H1)) h)
def an57 : An := { imm := [], jn := [(2, [0, 2, 3])], lp := [(1, [0, 2, 3])], loud := [], ord := [] }
def vc57 (C : Cb) (a0 : V) (H : Hp) (R : List V → Hp → Prop) : Prop :=
 C.aLen a0.nod.nod fun v1 =>
 C.aBin (Try.prog.underlying 3) .sub v1.nod (I 1) fun v2 =>
 LoopA (fun l3 H4 K5 =>
 C.aBin (Try.prog.underlying 3) .lss (l3.getD 1 .junk).nod.nod (l3.getD 2 .junk).nod.nod fun v6 =>
 aCond v6.nod (
 Jn (fun l7 H8 =>
 C.aBin (Try.prog.underlying 3) .add (l7.getD 1 .junk).nod.nod (I 1) fun v10 =>
 C.aBin (Try.prog.underlying 3) .sub (l7.getD 2 .junk).nod.nod (I 1) fun v11 =>
 K5 [(l7.getD 0 .junk), v10, v11] H8)
 (fun R9 =>
 C.aIx 1 (l3.getD 0 .junk).nod.nod (l3.getD 2 .junk).nod.nod fun v12 =>
 C.aLd 1 false false v12.nod H4 fun v13 H14 =>
 C.aIx 1 (l3.getD 0 .junk).nod.nod (l3.getD 1 .junk).nod.nod fun v15 =>
 C.aLd 1 false false v15.nod H14 fun v16 H17 =>
 C.aIx 1 (l3.getD 0 .junk).nod.nod (l3.getD 1 .junk).nod.nod fun v18 =>
 C.aSt 1 v18.nod v13 H17 fun v19 H20 =>
 C.aIx 1 (l3.getD 0 .junk).nod.nod (l3.getD 2 .junk).nod.nod fun v21 =>
 C.aSt 1 v21.nod v16 H20 fun v22 H23 =>
 R9 [(l3.getD 0 .junk), (l3.getD 1 .junk), (l3.getD 2 .junk)] H23)) (
 R [] H4))
 [a0, (I 0), v2] H
theorem wf57 : (Nat.ble 1 Try.f57.ntmps && wfC an57 Try.f57.ntmps (Try.f57.body.getD .skip)) = true := by kernel_rfl
theorem tie57 (C : Cb) (a0 : V) (H : Hp) (R : List V → Hp → Prop) : wpG Try.prog C an57 (Try.f57.body.getD .skip) (argF [a0]) H (retG Try.prog C Try.f57 R) (fun _ _ _ => False) (retG Try.prog C Try.f57 R) = vc57 C a0 H R := by kernel_rfl
theorem mkE57 (a0 : V) {H : Hp} {Q : V → Hp → Prop} (h : vc57 (real Try.prog) a0 H (retW Q)) : RetE Try.prog 57 [a0] H Q :=
 retE_mk (an := an57) hm Try.call57 Try.func57 rfl wf57 (Eq.mpr (tie57 (real Try.prog) a0 H (retW Q)) h)
def an31 : An := { imm := [2, 7, 10], jn := [(2, [1, 2, 39]), (7, [1, 2, 40, 41, 42, 65]), (14, [2, 8, 10, 67, 68, 69, 80])], lp := [(4, [1, 2, 40, 41, 42]), (11, [2, 8, 67, 68, 69])], loud := [80], ord := [] }
def vc31 (C : Cb) (a0 a1 : V) (H : Hp) (R : List V → Hp → Prop) : Prop :=
 C.aBx true 6 a0.nod H fun v1 H2 =>
 Jn (fun l3 H4 =>
 aCond (l3.getD 2 .junk).nod (
 R [(I 0), (I 2)] H4) (
 C.aLen (l3.getD 0 .junk).nod.nod fun v6 =>
 LoopA (fun l7 H8 K9 =>
 C.aBin (Try.prog.underlying 3) .lss (l7.getD 4 .junk).nod (l7.getD 3 .junk).nod fun v10 =>
 aCond v10.nod (
 C.aIx 3 (l7.getD 2 .junk).nod (l7.getD 4 .junk).nod fun v11 =>
 C.aLd 3 true false v11.nod H8 fun v12 H13 =>
 C.aBx true 3 v12.nod H13 fun v14 H15 =>
 Jn (fun l16 H17 =>
 aCond (l16.getD 5 .junk).nod (
 R [(I 0), (I 2)] H17) (
 C.aBin (Try.prog.underlying 3) .add (l16.getD 4 .junk).nod (I 1) fun v19 =>
 K9 [(l16.getD 0 .junk), (l16.getD 1 .junk), (l16.getD 2 .junk), (l16.getD 3 .junk), v19.nod] H17))
 (fun R18 =>
 C.aFA 0 1 false v14.nod fun v20 =>
 C.aLd 1 false false v20.nod H15 fun v21 H22 =>
 C.aBin (Try.prog.underlying 65) .lss v21.nod (I 1) fun v23 =>
 Jv (fun v24 H25 =>
 Jv (fun v31 H32 =>
 Jv (fun v40 H41 =>
 R18 [(l7.getD 0 .junk), (l7.getD 1 .junk), (l7.getD 2 .junk), (l7.getD 3 .junk), (l7.getD 4 .junk), v40] H41)
 (fun R42 =>
 aG v31.nod false (
 C.aFA 2 1 false v14.nod fun v43 =>
 C.aLd 1 false false v43.nod H32 fun v44 H45 =>
 C.callE 55 [v44.nod, (I 1), (I 1000)] H45 fun v46 H47 =>
 C.aUn .not v46.nod fun v48 =>
 R42 v48.nod H47) (
 R42 (B true) H32)))
 (fun R33 =>
 aG v24.nod false (
 C.aFA 1 1 false v14.nod fun v34 =>
 C.aLd 1 false false v34.nod H25 fun v35 H36 =>
 C.callE 55 [v35.nod, (I 0), (I 9)] H36 fun v37 H38 =>
 C.aUn .not v37.nod fun v39 =>
 R33 v39.nod H38) (
 R33 (B true) H25)))
 (fun R26 =>
 aG v23.nod false (
 C.aFA 0 1 false v14.nod fun v27 =>
 C.aLd 1 false false v27.nod H22 fun v28 H29 =>
 C.aBin (Try.prog.underlying 65) .gtr v28.nod (I 5) fun v30 =>
 R26 v30.nod H29) (
 R26 (B true) H22)))) (
 C.aLen (l7.getD 0 .junk).nod.nod fun v49 =>
 LoopA (fun l50 H51 K52 =>
 C.aBin (Try.prog.underlying 3) .lss (l50.getD 4 .junk).nod (l50.getD 3 .junk).nod fun v53 =>
 aCond v53.nod (
 C.aIx 3 (l50.getD 2 .junk).nod (l50.getD 4 .junk).nod fun v54 =>
 C.aLd 3 true false v54.nod H51 fun v55 H56 =>
 C.aBx true 3 v55.nod H56 fun v57 H58 =>
 Jn (fun l59 H60 =>
 aCond (l59.getD 6 .junk).nod (
 C.aFA 2 1 false (l59.getD 2 .junk).nod fun v62 =>
 C.aLd 1 false false v62.nod H60 fun v63 H64 =>
 C.callE 67 [(l59.getD 1 .junk).nod.nod, v63.nod] H64 fun v65 H66 =>
 C.aMM false [v65.nod, (I 10000)] fun v67 =>
 C.aBin (Try.prog.underlying 3) .add (l59.getD 5 .junk).nod (I 1) fun v68 =>
 K52 [(l59.getD 0 .junk), v67, (l59.getD 3 .junk), (l59.getD 4 .junk), v68.nod] H66) (
 C.aBin (Try.prog.underlying 3) .add (l59.getD 5 .junk).nod (I 1) fun v69 =>
 K52 [(l59.getD 0 .junk), (l59.getD 1 .junk), (l59.getD 3 .junk), (l59.getD 4 .junk), v69.nod] H60))
 (fun R61 =>
 C.aLd 6 true false (l50.getD 0 .junk).nod H58 fun v70 H71 =>
 C.calm 66 [v70.nod] H71 fun v72 =>
 C.aFA 0 1 false v57.nod fun v73 =>
 C.aLd 1 false false v73.nod H71 fun v74 H75 =>
 C.aIx 1 v72.nod v74.nod fun v76 =>
 C.aLd 1 false false v76.nod H75 fun v77 H78 =>
 C.aLd 3 true false v57.nod H78 fun v79 H80 =>
 aCallG C v77.nod [v79.nod] H80 fun v81 H82 =>
 R61 [(l50.getD 0 .junk), (l50.getD 1 .junk), v57, (l50.getD 2 .junk), (l50.getD 3 .junk), (l50.getD 4 .junk), v81] H82)) (
 C.aFA 1 1 false (l50.getD 0 .junk).nod fun v83 =>
 C.aLd 1 false false v83.nod H51 fun v84 H85 =>
 C.aFA 0 1 false (l50.getD 0 .junk).nod fun v86 =>
 C.aLd 1 false false v86.nod H85 fun v87 H88 =>
 C.aFA 1 1 false (l50.getD 0 .junk).nod fun v89 =>
 C.aLd 1 false false v89.nod H88 fun v90 H91 =>
 C.aBin (Try.prog.underlying 3) .sub v87.nod v90.nod fun v92 =>
 C.calm 67 [v92.nod, (l50.getD 1 .junk).nod.nod] H91 fun v93 =>
 C.aBin (Try.prog.underlying 3) .add v84.nod v93.nod fun v94 =>
 R [v94, (I 0)] H91))
 [(l7.getD 1 .junk), (I 100), (l7.getD 0 .junk).nod, v49, (I 0)] H8))
 [(l3.getD 0 .junk), (l3.getD 1 .junk), (l3.getD 0 .junk).nod, v6, (I 0)] H4))
 (fun R5 =>
 C.aFA 1 1 false v1.nod fun v95 =>
 C.aLd 1 false false v95.nod H2 fun v96 H97 =>
 C.callE 55 [v96.nod, (I 1), (I 2000)] H97 fun v98 H99 =>
 C.aUn .not v98.nod fun v100 =>
 Jv (fun v101 H102 =>
 Jv (fun v113 H114 =>
 Jv (fun v122 H123 =>
 Jv (fun v131 H132 =>
 R5 [a1, v1, v131] H132)
 (fun R133 =>
 aG v122.nod false (
 C.aLen a1.nod.nod fun v134 =>
 C.aBin (Try.prog.underlying 3) .gtr v134.nod (I 40) fun v135 =>
 R133 v135.nod H123) (
 R133 (B true) H123)))
 (fun R124 =>
 aG v113.nod false (
 C.aFA 5 1 false v1.nod fun v125 =>
 C.aLd 1 false false v125.nod H114 fun v126 H127 =>
 C.callE 55 [v126.nod, (I 0), (I 9)] H127 fun v128 H129 =>
 C.aUn .not v128.nod fun v130 =>
 R124 v130.nod H129) (
 R124 (B true) H114)))
 (fun R115 =>
 aG v101.nod false (
 C.aFA 4 1 false v1.nod fun v116 =>
 C.aLd 1 false false v116.nod H102 fun v117 H118 =>
 C.callE 55 [v117.nod, (I 0), (I 2)] H118 fun v119 H120 =>
 C.aUn .not v119.nod fun v121 =>
 R115 v121.nod H120) (
 R115 (B true) H102)))
 (fun R103 =>
 aG v100.nod false (
 C.aFA 0 1 false v1.nod fun v104 =>
 C.aLd 1 false false v104.nod H99 fun v105 H106 =>
 C.aFA 1 1 false v1.nod fun v107 =>
 C.aLd 1 false false v107.nod H106 fun v108 H109 =>
 C.callE 55 [v105.nod, v108.nod, (I 2000)] H109 fun v110 H111 =>
 C.aUn .not v110.nod fun v112 =>
 R103 v112.nod H111) (
 R103 (B true) H99)))
theorem wf31 : (Nat.ble 2 Try.f31.ntmps && wfC an31 Try.f31.ntmps (Try.f31.body.getD .skip)) = true := by kernel_rfl
theorem tie31 (C : Cb) (a0 a1 : V) (H : Hp) (R : List V → Hp → Prop) : wpG Try.prog C an31 (Try.f31.body.getD .skip) (argF [a0, a1]) H (retG Try.prog C Try.f31 R) (fun _ _ _ => False) (retG Try.prog C Try.f31 R) = vc31 C a0 a1 H R := by kernel_rfl
theorem mk31 (a0 a1 : V) {H : Hp} {v : V} {H1 : Hp} (hd : v.Nd) (hn : H.length ≤ H1.length) (hb : H1 = H ∨ ∀ (b : Nat) (blk : Blk), H1[b]? = some blk → H[b]? = some blk ∨ BelB H1.length blk) (h : vc31 (real Try.prog) a0 a1 H (retF v H1)) : Ret Try.prog 31 [a0, a1] H v H1 :=
 ret_mk (an := an31) hm Try.call31 Try.func31 rfl wf31 hd hn hb (Eq.mpr (tie31 (real Try.prog) a0 a1 H (retF v H1)) h)
def an66 : An := { imm := [1], jn := [], lp := [], loud := [], ord := [] }
def vc66 (C : Cb) (a0 : V) (H : Hp) (R : List V → Hp → Prop) : Prop :=
 C.aBx true 6 a0.nod H fun v1 H2 =>
 C.aBS 1 6 (V.imm .nilFunc) [(1, (V.fn 93 [v1.nod])), (2, (V.fn 94 [v1.nod])), (3, (V.fn 95 [v1.nod])), (4, (V.fn 96 [v1.nod])), (5, (V.fn 97 [v1.nod]))] fun v3 =>
 R [v3] H2
theorem wf66 : (Nat.ble 1 Try.f66.ntmps && wfC an66 Try.f66.ntmps (Try.f66.body.getD .skip)) = true := by kernel_rfl
theorem tie66 (C : Cb) (a0 : V) (H : Hp) (R : List V → Hp → Prop) : wpG Try.prog C an66 (Try.f66.body.getD .skip) (argF [a0]) H (retG Try.prog C Try.f66 R) (fun _ _ _ => False) (retG Try.prog C Try.f66 R) = vc66 C a0 H R := by kernel_rfl
theorem mk66 (a0 : V) {H : Hp} {v : V} {H1 : Hp} (hd : v.Nd) (hn : H.length ≤ H1.length) (hb : H1 = H ∨ ∀ (b : Nat) (blk : Blk), H1[b]? = some blk → H[b]? = some blk ∨ BelB H1.length blk) (h : vc66 (real Try.prog) a0 H (retF v H1)) : Ret Try.prog 66 [a0] H v H1 :=
 ret_mk (an := an66) hm Try.call66 Try.func66 rfl wf66 hd hn hb (Eq.mpr (tie66 (real Try.prog) a0 H (retF v H1)) h)
def an67 : An := { imm := [], jn := [], lp := [], loud := [], ord := [] }
def vc67 (C : Cb) (a0 a1 : V) (H : Hp) (R : List V → Hp → Prop) : Prop :=
 C.aBin (Try.prog.underlying 3) .mul (I 2) a0.nod.nod fun v1 =>
 C.aBin (Try.prog.underlying 3) .mul v1.nod a1.nod.nod fun v2 =>
 C.aBin (Try.prog.underlying 3) .add v2.nod (I 100) fun v3 =>
 C.aBin (Try.prog.underlying 3) .quo v3.nod (I 200) fun v4 =>
 R [v4] H
theorem wf67 : (Nat.ble 2 Try.f67.ntmps && wfC an67 Try.f67.ntmps (Try.f67.body.getD .skip)) = true := by kernel_rfl
theorem tie67 (C : Cb) (a0 a1 : V) (H : Hp) (R : List V → Hp → Prop) : wpG Try.prog C an67 (Try.f67.body.getD .skip) (argF [a0, a1]) H (retG Try.prog C Try.f67 R) (fun _ _ _ => False) (retG Try.prog C Try.f67 R) = vc67 C a0 a1 H R := by kernel_rfl
theorem mk67 (a0 a1 : V) {H : Hp} {v : V} {H1 : Hp} (hd : v.Nd) (hn : H.length ≤ H1.length) (hb : H1 = H ∨ ∀ (b : Nat) (blk : Blk), H1[b]? = some blk → H[b]? = some blk ∨ BelB H1.length blk) (h : vc67 (real Try.prog) a0 a1 H (retF v H1)) : Ret Try.prog 67 [a0, a1] H v H1 :=
 ret_mk (an := an67) hm Try.call67 Try.func67 rfl wf67 hd hn hb (Eq.mpr (tie67 (real Try.prog) a0 a1 H (retF v H1)) h)
def an93 : An := { imm := [2], jn := [], lp := [], loud := [], ord := [] }
def vc93 (C : Cb) (a0 a1 : V) (H : Hp) (R : List V → Hp → Prop) : Prop :=
 C.aBx true 3 a0.nod H fun v1 H2 =>
 C.aFA 2 1 false a1.nod fun v3 =>
 C.aLd 1 false false v3.nod H2 fun v4 H5 =>
 R [v4] H5
theorem wf93 : (Nat.ble 2 Try.f93.ntmps && wfC an93 Try.f93.ntmps (Try.f93.body.getD .skip)) = true := by kernel_rfl
theorem tie93 (C : Cb) (a0 a1 : V) (H : Hp) (R : List V → Hp → Prop) : wpG Try.prog C an93 (Try.f93.body.getD .skip) (argF [a0, a1]) H (retG Try.prog C Try.f93 R) (fun _ _ _ => False) (retG Try.prog C Try.f93 R) = vc93 C a0 a1 H R := by kernel_rfl
theorem mk93 (a0 a1 : V) {H : Hp} {v : V} {H1 : Hp} (hd : v.Nd) (hn : H.length ≤ H1.length) (hb : H1 = H ∨ ∀ (b : Nat) (blk : Blk), H1[b]? = some blk → H[b]? = some blk ∨ BelB H1.length blk) (h : vc93 (real Try.prog) a0 a1 H (retF v H1)) : Ret Try.prog 93 [a0, a1] H v H1 :=
 ret_mk (an := an93) hm Try.call93 Try.func93 rfl wf93 hd hn hb (Eq.mpr (tie93 (real Try.prog) a0 a1 H (retF v H1)) h)
def an94 : An := { imm := [2], jn := [], lp := [], loud := [], ord := [] }
def vc94 (C : Cb) (a0 a1 : V) (H : Hp) (R : List V → Hp → Prop) : Prop :=
 C.aBx true 3 a0.nod H fun v1 H2 =>
 C.aFA 2 1 false a1.nod fun v3 =>
 C.aLd 1 false false v3.nod H2 fun v4 H5 =>
 C.aUn .not v4.nod fun v6 =>
 R [v6] H5
theorem wf94 : (Nat.ble 2 Try.f94.ntmps && wfC an94 Try.f94.ntmps (Try.f94.body.getD .skip)) = true := by kernel_rfl
theorem tie94 (C : Cb) (a0 a1 : V) (H : Hp) (R : List V → Hp → Prop) : wpG Try.prog C an94 (Try.f94.body.getD .skip) (argF [a0, a1]) H (retG Try.prog C Try.f94 R) (fun _ _ _ => False) (retG Try.prog C Try.f94 R) = vc94 C a0 a1 H R := by kernel_rfl
theorem mk94 (a0 a1 : V) {H : Hp} {v : V} {H1 : Hp} (hd : v.Nd) (hn : H.length ≤ H1.length) (hb : H1 = H ∨ ∀ (b : Nat) (blk : Blk), H1[b]? = some blk → H[b]? = some blk ∨ BelB H1.length blk) (h : vc94 (real Try.prog) a0 a1 H (retF v H1)) : Ret Try.prog 94 [a0, a1] H v H1 :=
 ret_mk (an := an94) hm Try.call94 Try.func94 rfl wf94 hd hn hb (Eq.mpr (tie94 (real Try.prog) a0 a1 H (retF v H1)) h)
def an95 : An := { imm := [2], jn := [], lp := [], loud := [], ord := [] }
def vc95 (C : Cb) (a0 a1 : V) (H : Hp) (R : List V → Hp → Prop) : Prop :=
 C.aBx true 3 a0.nod H fun v1 H2 =>
 C.aFA 3 1 false a1.nod fun v3 =>
 C.aLd 1 false false v3.nod H2 fun v4 H5 =>
 R [v4] H5
theorem wf95 : (Nat.ble 2 Try.f95.ntmps && wfC an95 Try.f95.ntmps (Try.f95.body.getD .skip)) = true := by kernel_rfl
theorem tie95 (C : Cb) (a0 a1 : V) (H : Hp) (R : List V → Hp → Prop) : wpG Try.prog C an95 (Try.f95.body.getD .skip) (argF [a0, a1]) H (retG Try.prog C Try.f95 R) (fun _ _ _ => False) (retG Try.prog C Try.f95 R) = vc95 C a0 a1 H R := by kernel_rfl
theorem mk95 (a0 a1 : V) {H : Hp} {v : V} {H1 : Hp} (hd : v.Nd) (hn : H.length ≤ H1.length) (hb : H1 = H ∨ ∀ (b : Nat) (blk : Blk), H1[b]? = some blk → H[b]? = some blk ∨ BelB H1.length blk) (h : vc95 (real Try.prog) a0 a1 H (retF v H1)) : Ret Try.prog 95 [a0, a1] H v H1 :=
 ret_mk (an := an95) hm Try.call95 Try.func95 rfl wf95 hd hn hb (Eq.mpr (tie95 (real Try.prog) a0 a1 H (retF v H1)) h)
def an96 : An := { imm := [2], jn := [], lp := [], loud := [], ord := [] }
def vc96 (C : Cb) (a0 a1 : V) (H : Hp) (R : List V → Hp → Prop) : Prop :=
 C.aBx true 3 a0.nod H fun v1 H2 =>
 C.aFA 4 1 false a1.nod fun v3 =>
 C.aLd 1 false false v3.nod H2 fun v4 H5 =>
 C.aFA 1 1 false v1.nod fun v6 =>
 C.aLd 1 false false v6.nod H5 fun v7 H8 =>
 C.aBin (Try.prog.underlying 3) .geq v4.nod v7.nod fun v9 =>
 Jv (fun v10 H11 =>
 R [v10] H11)
 (fun R12 =>
 aG v9.nod true (
 C.aFA 4 1 false a1.nod fun v13 =>
 C.aLd 1 false false v13.nod H8 fun v14 H15 =>
 C.aBin (Try.prog.underlying 3) .neq v14.nod (I 0) fun v16 =>
 R12 v16.nod H15) (
 R12 (B false) H8))
theorem wf96 : (Nat.ble 2 Try.f96.ntmps && wfC an96 Try.f96.ntmps (Try.f96.body.getD .skip)) = true := by kernel_rfl
theorem tie96 (C : Cb) (a0 a1 : V) (H : Hp) (R : List V → Hp → Prop) : wpG Try.prog C an96 (Try.f96.body.getD .skip) (argF [a0, a1]) H (retG Try.prog C Try.f96 R) (fun _ _ _ => False) (retG Try.prog C Try.f96 R) = vc96 C a0 a1 H R := by kernel_rfl
theorem mk96 (a0 a1 : V) {H : Hp} {v : V} {H1 : Hp} (hd : v.Nd) (hn : H.length ≤ H1.length) (hb : H1 = H ∨ ∀ (b : Nat) (blk : Blk), H1[b]? = some blk → H[b]? = some blk ∨ BelB H1.length blk) (h : vc96 (real Try.prog) a0 a1 H (retF v H1)) : Ret Try.prog 96 [a0, a1] H v H1 :=
 ret_mk (an := an96) hm Try.call96 Try.func96 rfl wf96 hd hn hb (Eq.mpr (tie96 (real Try.prog) a0 a1 H (retF v H1)) h)
def an97 : An := { imm := [2], jn := [], lp := [], loud := [], ord := [] }
def vc97 (C : Cb) (a0 a1 : V) (H : Hp) (R : List V → Hp → Prop) : Prop :=
 C.aBx true 3 a0.nod H fun v1 H2 =>
 C.aFA 5 1 false a1.nod fun v3 =>
 C.aLd 1 false false v3.nod H2 fun v4 H5 =>
 C.aFA 1 1 false v1.nod fun v6 =>
 C.aLd 1 false false v6.nod H5 fun v7 H8 =>
 C.aBin (Try.prog.underlying 3) .geq v4.nod v7.nod fun v9 =>
 R [v9] H8
theorem wf97 : (Nat.ble 2 Try.f97.ntmps && wfC an97 Try.f97.ntmps (Try.f97.body.getD .skip)) = true := by kernel_rfl
theorem tie97 (C : Cb) (a0 a1 : V) (H : Hp) (R : List V → Hp → Prop) : wpG Try.prog C an97 (Try.f97.body.getD .skip) (argF [a0, a1]) H (retG Try.prog C Try.f97 R) (fun _ _ _ => False) (retG Try.prog C Try.f97 R) = vc97 C a0 a1 H R := by kernel_rfl
theorem mk97 (a0 a1 : V) {H : Hp} {v : V} {H1 : Hp} (hd : v.Nd) (hn : H.length ≤ H1.length) (hb : H1 = H ∨ ∀ (b : Nat) (blk : Blk), H1[b]? = some blk → H[b]? = some blk ∨ BelB H1.length blk) (h : vc97 (real Try.prog) a0 a1 H (retF v H1)) : Ret Try.prog 97 [a0, a1] H v H1 :=
 ret_mk (an := an97) hm Try.call97 Try.func97 rfl wf97 hd hn hb (Eq.mpr (tie97 (real Try.prog) a0 a1 H (retF v H1)) h)
def an35 : An := { imm := [57], jn := [(2, [0, 1, 2, 3, 26]), (7, [0, 2, 10, 11, 12, 33, 34, 35]), (12, [0, 2, 10, 11, 12]), (13, [0, 2, 10, 11, 12, 69]), (15, [0, 2, 10, 11, 12]), (19, [0, 2, 10, 11, 12, 15, 16])], lp := [(7, [0, 2, 10, 11, 12, 33, 34, 35]), (14, [0, 2, 10, 11, 12])], loud := [53, 57, 99], ord := [] }
def vc35 (C : Cb) (a0 a1 a2 a3 : V) (H : Hp) (R : List V → Hp → Prop) : Prop :=
 Jn (fun l1 H2 =>
 aCond (l1.getD 4 .junk).nod (
 R [(V.arr [] .full), (I 2)] H2) (
 C.callE 64 [(l1.getD 1 .junk).nod.nod] H2 fun v4 H5 =>
 C.aBS 2 0 (V.agg [(I 0), (I 0)]) [] fun v6 =>
 C.aBx false 1 v6.nod H5 fun v7 H8 =>
 Jn (fun l9 H10 =>
 Jn (fun l12 H13 =>
 aCond (l12.getD 5 .junk).nod (
 R [(V.arr [] .full), (I 5)] H13) (
 LoopA (fun l15 H16 K17 =>
 C.aBin (Try.prog.underlying 3) .gtr (l15.getD 3 .junk).nod.nod (I 0) fun v18 =>
 aCond v18.nod (
 Jn (fun l19 H20 =>
 C.aBin (Try.prog.underlying 3) .sub (l19.getD 3 .junk).nod.nod (I 1) fun v22 =>
 K17 [(l19.getD 0 .junk), (l19.getD 1 .junk), (l19.getD 2 .junk), v22, (l19.getD 4 .junk)] H20)
 (fun R21 =>
 C.invE "declaim/prosody.first" (l15.getD 4 .junk).nod.nod [] H16 fun v23 H24 =>
 C.aNC v23.nod.nod fun v25 =>
 C.aFA 1 1 false v25.nod fun v26 =>
 C.aLd 1 false false v26.nod H24 fun v27 H28 =>
 Jn (fun l29 H30 =>
 C.aIx 1 (l29.getD 2 .junk).nod.nod (l29.getD 6 .junk).nod.nod fun v32 =>
 C.aLd 1 false false v32.nod H30 fun v33 H34 =>
 C.aIx 1 (l29.getD 0 .junk).nod.nod (l29.getD 6 .junk).nod.nod fun v35 =>
 C.aLd 1 false false v35.nod H34 fun v36 H37 =>
 C.aIx 1 (l29.getD 1 .junk).nod.nod (l29.getD 6 .junk).nod.nod fun v38 =>
 C.aLd 1 false false v38.nod H37 fun v39 H40 =>
 C.call 71 [v33.nod, v36.nod, v39.nod] H40 fun v41 H42 =>
 C.aNC (l29.getD 5 .junk).nod.nod fun v43 =>
 C.aFA 0 1 false v43.nod fun v44 =>
 C.aSt 1 v44.nod v41 H42 fun v45 H46 =>
 C.callE 72 [(l29.getD 4 .junk).nod.nod, (I 0)] H46 fun v47 H48 =>
 R21 [(l29.getD 0 .junk), (l29.getD 1 .junk), (l29.getD 2 .junk), (l29.getD 3 .junk), (l29.getD 4 .junk)] H48)
 (fun R31 =>
 C.aIx 1 (l15.getD 2 .junk).nod.nod v27.nod.nod fun v49 =>
 C.aLd 1 false false v49.nod H28 fun v50 H51 =>
 C.aBin (Try.prog.underlying 3) .add v50.nod (I 1) fun v52 =>
 C.aIx 1 (l15.getD 2 .junk).nod.nod v27.nod.nod fun v53 =>
 C.aSt 1 v53.nod v52 H51 fun v54 H55 =>
 R31 [(l15.getD 0 .junk), (l15.getD 1 .junk), (l15.getD 2 .junk), (l15.getD 3 .junk), (l15.getD 4 .junk), v23, v27] H55))) (
 R [(l15.getD 2 .junk).nod, (I 0)] H16))
 [(l12.getD 0 .junk), (l12.getD 1 .junk), (l12.getD 2 .junk), (l12.getD 3 .junk), (l12.getD 4 .junk)] H13))
 (fun R14 =>
 C.aBin (Try.prog.underlying 3) .lss (l9.getD 3 .junk).nod.nod (I 0) fun v56 =>
 Jv (fun v57 H58 =>
 R14 [(l9.getD 0 .junk), (l9.getD 1 .junk), (l9.getD 2 .junk), (l9.getD 3 .junk), (l9.getD 4 .junk), v57] H58)
 (fun R59 =>
 aG v56.nod false (
 C.aBin (Try.prog.underlying 3) .gtr (l9.getD 3 .junk).nod.nod (I 0) fun v60 =>
 aG v60.nod true (
 C.invE "Len" (l9.getD 4 .junk).nod.nod [] H10 fun v61 H62 =>
 C.aBin (Try.prog.underlying 3) .eql v61.nod (I 0) fun v63 =>
 R59 v63.nod.nod H62) (
 R59 (B false) H10)) (
 UD = UD ∧
 UD = UD ∧
 UD = UD ∧
 R59 (B true) H10))))
 (fun R11 =>
 Jn (fun l64 H65 =>
 LoopA (fun l67 H68 K69 =>
 C.aBin (Try.prog.underlying 3) .lss (l67.getD 7 .junk).nod (l67.getD 6 .junk).nod fun v70 =>
 aCond v70.nod (
 C.aIx 1 (l67.getD 5 .junk).nod (l67.getD 7 .junk).nod fun v71 =>
 C.aLd 1 false false v71.nod H68 fun v72 H73 =>
 C.aBin (Try.prog.underlying 3) .sub (l67.getD 3 .junk).nod.nod v72.nod.nod fun v74 =>
 C.aIx 1 (l67.getD 0 .junk).nod.nod (l67.getD 7 .junk).nod.nod.nod fun v75 =>
 C.aLd 1 false false v75.nod H73 fun v76 H77 =>
 C.aIx 1 (l67.getD 1 .junk).nod.nod (l67.getD 7 .junk).nod.nod.nod fun v78 =>
 C.aLd 1 false false v78.nod H77 fun v79 H80 =>
 C.call 71 [v72.nod.nod, v76.nod, v79.nod] H80 fun v81 H82 =>
 C.aBd [(I 0), (I 0)] [(0, 1, v81.nod), (1, 1, (l67.getD 7 .junk).nod.nod.nod.nod)] fun v83 =>
 C.callE 70 [(l67.getD 4 .junk).nod.nod, (V.ifc 135 (own0 v83 v81).nod)] H82 fun v84 H85 =>
 C.aBin (Try.prog.underlying 3) .add (l67.getD 7 .junk).nod (I 1) fun v86 =>
 K69 [(l67.getD 0 .junk), (l67.getD 1 .junk), (l67.getD 2 .junk), v74, (l67.getD 4 .junk), (l67.getD 5 .junk), (l67.getD 6 .junk), v86.nod] H85) (
 R11 [(l67.getD 0 .junk), (l67.getD 1 .junk), (l67.getD 2 .junk), (l67.getD 3 .junk), (l67.getD 4 .junk)] H68))
 [(l64.getD 0 .junk), (l64.getD 1 .junk), (l64.getD 2 .junk), (l64.getD 3 .junk), (l64.getD 4 .junk), (l64.getD 5 .junk), (l64.getD 6 .junk), (l64.getD 7 .junk)] H65)
 (fun R66 =>
 C.aLen (l1.getD 1 .junk).nod.nod fun v87 =>
 R66 [(l1.getD 0 .junk), (l1.getD 2 .junk), v4, (l1.getD 3 .junk).nod, (V.ifc 127 v7.nod), (l1.getD 1 .junk).nod, v87, (I 0)] H8))))
 (fun R3 =>
 C.callE 69 [a0.nod.nod, a1.nod.nod, a2.nod.nod] H fun v88 H89 =>
 C.aUn .not v88.nod fun v90 =>
 Jv (fun v91 H92 =>
 R3 [a0, a1, a2, a3, v91] H92)
 (fun R93 =>
 aG v90.nod false (
 C.callE 55 [a3.nod.nod, (I 0), (I 60000)] H89 fun v94 H95 =>
 C.aUn .not v94.nod fun v96 =>
 R93 v96.nod H95) (
 R93 (B true) H89)))
theorem wf35 : (Nat.ble 4 Try.f35.ntmps && wfC an35 Try.f35.ntmps (Try.f35.body.getD .skip)) = true := by kernel_rfl
theorem tie35 (C : Cb) (a0 a1 a2 a3 : V) (H : Hp) (R : List V → Hp → Prop) : wpG Try.prog C an35 (Try.f35.body.getD .skip) (argF [a0, a1, a2, a3]) H (retG Try.prog C Try.f35 R) (fun _ _ _ => False) (retG Try.prog C Try.f35 R) = vc35 C a0 a1 a2 a3 H R := by kernel_rfl
theorem mk35 (a0 a1 a2 a3 : V) {H : Hp} {v : V} {H1 : Hp} (hd : v.Nd) (hn : H.length ≤ H1.length) (hb : H1 = H ∨ ∀ (b : Nat) (blk : Blk), H1[b]? = some blk → H[b]? = some blk ∨ BelB H1.length blk) (h : vc35 (real Try.prog) a0 a1 a2 a3 H (retF v H1)) : Ret Try.prog 35 [a0, a1, a2, a3] H v H1 :=
 ret_mk (an := an35) hm Try.call35 Try.func35 rfl wf35 hd hn hb (Eq.mpr (tie35 (real Try.prog) a0 a1 a2 a3 H (retF v H1)) h)
def an64 : An := { imm := [], jn := [], lp := [], loud := [], ord := [] }
def vc64 (C : Cb) (a0 : V) (H : Hp) (R : List V → Hp → Prop) : Prop :=
 C.aNilS (Try.prog.underlying 22) .eql a0.nod.nod fun v1 =>
 aCond v1.nod (
 R [(V.arr [] .full)] H) (
 C.aBS 1 0 (I 0) [] fun v2 =>
 C.aApp 1 8 v2 a0.nod.nod fun v3 =>
 R [v3] H)
theorem wf64 : (Nat.ble 1 Try.f64.ntmps && wfC an64 Try.f64.ntmps (Try.f64.body.getD .skip)) = true := by kernel_rfl
theorem tie64 (C : Cb) (a0 : V) (H : Hp) (R : List V → Hp → Prop) : wpG Try.prog C an64 (Try.f64.body.getD .skip) (argF [a0]) H (retG Try.prog C Try.f64 R) (fun _ _ _ => False) (retG Try.prog C Try.f64 R) = vc64 C a0 H R := by kernel_rfl
theorem mk64 (a0 : V) {H : Hp} {v : V} {H1 : Hp} (hd : v.Nd) (hn : H.length ≤ H1.length) (hb : H1 = H ∨ ∀ (b : Nat) (blk : Blk), H1[b]? = some blk → H[b]? = some blk ∨ BelB H1.length blk) (h : vc64 (real Try.prog) a0 H (retF v H1)) : Ret Try.prog 64 [a0] H v H1 :=
 ret_mk (an := an64) hm Try.call64 Try.func64 rfl wf64 hd hn hb (Eq.mpr (tie64 (real Try.prog) a0 H (retF v H1)) h)
def an64b : An := { imm := [7], jn := [], lp := [], loud := [], ord := [] }
def vc64b (C : Cb) (a0 : V) (H : Hp) (R : List V → Hp → Prop) : Prop :=
 C.aNilS (Try.prog.underlying 22) .eql a0.nod.nod fun v1 =>
 aCond v1.nod (
 R [(V.arr [] .full)] H) (
 C.aBS 1 0 (I 0) [] fun v2 =>
 C.aAppB 1 8 v2 a0.nod.nod H fun v3 H4 =>
 R [v3] H4)
theorem wf64b : (Nat.ble 1 Try.f64.ntmps && wfC an64b Try.f64.ntmps (Try.f64.body.getD .skip)) = true := by kernel_rfl
theorem tie64b (C : Cb) (a0 : V) (H : Hp) (R : List V → Hp → Prop) : wpG Try.prog C an64b (Try.f64.body.getD .skip) (argF [a0]) H (retG Try.prog C Try.f64 R) (fun _ _ _ => False) (retG Try.prog C Try.f64 R) = vc64b C a0 H R := by kernel_rfl
theorem mkE64b (a0 : V) {H : Hp} {Q : V → Hp → Prop} (h : vc64b (real Try.prog) a0 H (retW Q)) : RetE Try.prog 64 [a0] H Q :=
 retE_mk (an := an64b) hm Try.call64 Try.func64 rfl wf64b (Eq.mpr (tie64b (real Try.prog) a0 H (retW Q)) h)
def an70 : An := { imm := [], jn := [], lp := [], loud := [], ord := [] }
def vc70 (C : Cb) (a0 a1 : V) (H : Hp) (R : List V → Hp → Prop) : Prop :=
 C.invE "Push" a0.nod.nod [a1.nod.nod] H fun v1 H2 =>
 C.invE "Len" a0.nod.nod [] H2 fun v3 H4 =>
 C.aBin (Try.prog.underlying 3) .sub v3.nod (I 1) fun v5 =>
 C.callE 100 [a0.nod.nod, v5.nod] H4 fun v6 H7 =>
 R [] H7
theorem wf70 : (Nat.ble 2 Try.f70.ntmps && wfC an70 Try.f70.ntmps (Try.f70.body.getD .skip)) = true := by kernel_rfl
theorem tie70 (C : Cb) (a0 a1 : V) (H : Hp) (R : List V → Hp → Prop) : wpG Try.prog C an70 (Try.f70.body.getD .skip) (argF [a0, a1]) H (retG Try.prog C Try.f70 R) (fun _ _ _ => False) (retG Try.prog C Try.f70 R) = vc70 C a0 a1 H R := by kernel_rfl
theorem mkE70 (a0 a1 : V) {H : Hp} {Q : V → Hp → Prop} (h : vc70 (real Try.prog) a0 a1 H (retW Q)) : RetE Try.prog 70 [a0, a1] H Q :=
 retE_mk (an := an70) hm Try.call70 Try.func70 rfl wf70 (Eq.mpr (tie70 (real Try.prog) a0 a1 H (retW Q)) h)
def an71 : An := { imm := [], jn := [], lp := [], loud := [], ord := [] }
def vc71 (C : Cb) (a0 a1 a2 : V) (H : Hp) (R : List V → Hp → Prop) : Prop :=
 C.aBin (Try.prog.underlying 3) .sub a0.nod.nod a1.nod.nod fun v1 =>
 C.aBin (Try.prog.underlying 3) .mul (I 2) v1.nod fun v2 =>
 C.aBin (Try.prog.underlying 3) .add v2.nod (I 1) fun v3 =>
 C.aBin (Try.prog.underlying 3) .mul a2.nod.nod v3.nod fun v4 =>
 R [v4] H
theorem wf71 : (Nat.ble 3 Try.f71.ntmps && wfC an71 Try.f71.ntmps (Try.f71.body.getD .skip)) = true := by kernel_rfl
theorem tie71 (C : Cb) (a0 a1 a2 : V) (H : Hp) (R : List V → Hp → Prop) : wpG Try.prog C an71 (Try.f71.body.getD .skip) (argF [a0, a1, a2]) H (retG Try.prog C Try.f71 R) (fun _ _ _ => False) (retG Try.prog C Try.f71 R) = vc71 C a0 a1 a2 H R := by kernel_rfl
theorem mk71 (a0 a1 a2 : V) {H : Hp} {v : V} {H1 : Hp} (hd : v.Nd) (hn : H.length ≤ H1.length) (hb : H1 = H ∨ ∀ (b : Nat) (blk : Blk), H1[b]? = some blk → H[b]? = some blk ∨ BelB H1.length blk) (h : vc71 (real Try.prog) a0 a1 a2 H (retF v H1)) : Ret Try.prog 71 [a0, a1, a2] H v H1 :=
 ret_mk (an := an71) hm Try.call71 Try.func71 rfl wf71 hd hn hb (Eq.mpr (tie71 (real Try.prog) a0 a1 a2 H (retF v H1)) h)
def an72 : An := { imm := [], jn := [], lp := [], loud := [], ord := [] }
def vc72 (C : Cb) (a0 a1 : V) (H : Hp) (R : List V → Hp → Prop) : Prop :=
 C.invE "Len" a0.nod.nod [] H fun v1 H2 =>
 C.callE 101 [a0.nod.nod, a1.nod.nod, v1.nod] H2 fun v3 H4 =>
 C.aUn .not v3.nod fun v5 =>
 aCond v5.nod (
 C.callE 100 [a0.nod.nod, a1.nod.nod] H4 fun v6 H7 =>
 R [] H7) (
 R [] H4)
theorem wf72 : (Nat.ble 2 Try.f72.ntmps && wfC an72 Try.f72.ntmps (Try.f72.body.getD .skip)) = true := by kernel_rfl
theorem tie72 (C : Cb) (a0 a1 : V) (H : Hp) (R : List V → Hp → Prop) : wpG Try.prog C an72 (Try.f72.body.getD .skip) (argF [a0, a1]) H (retG Try.prog C Try.f72 R) (fun _ _ _ => False) (retG Try.prog C Try.f72 R) = vc72 C a0 a1 H R := by kernel_rfl
theorem mkE72 (a0 a1 : V) {H : Hp} {Q : V → Hp → Prop} (h : vc72 (real Try.prog) a0 a1 H (retW Q)) : RetE Try.prog 72 [a0, a1] H Q :=
 retE_mk (an := an72) hm Try.call72 Try.func72 rfl wf72 (Eq.mpr (tie72 (real Try.prog) a0 a1 H (retW Q)) h)
def an100 : An := { imm := [], jn := [(2, [0, 1, 4])], lp := [(0, [0, 1])], loud := [], ord := [] }
def vc100 (C : Cb) (a0 a1 : V) (H : Hp) (R : List V → Hp → Prop) : Prop :=
 LoopA (fun l1 H2 K3 =>
 C.aBin (Try.prog.underlying 3) .sub (l1.getD 1 .junk).nod.nod (I 1) fun v4 =>
 C.aBin (Try.prog.underlying 3) .quo v4.nod (I 2) fun v5 =>
 Jn (fun l6 H7 =>
 C.invE "Swap" (l6.getD 0 .junk).nod.nod [(l6.getD 2 .junk).nod.nod, (l6.getD 1 .junk).nod.nod] H7 fun v9 H10 =>
 K3 [(l6.getD 0 .junk), (l6.getD 2 .junk).nod] H10)
 (fun R8 =>
 C.aBin (Try.prog.underlying 3) .eql v5.nod.nod (l1.getD 1 .junk).nod.nod fun v11 =>
 Jv (fun v12 H13 =>
 aCond v12.nod (
 R [] H13) (
 R8 [(l1.getD 0 .junk), (l1.getD 1 .junk), v5] H13))
 (fun R14 =>
 aG v11.nod false (
 C.invE "Less" (l1.getD 0 .junk).nod.nod [(l1.getD 1 .junk).nod.nod, v5.nod.nod] H2 fun v15 H16 =>
 C.aUn .not v15.nod fun v17 =>
 R14 v17.nod H16) (
 R14 (B true) H2))))
 [a0, a1] H
theorem wf100 : (Nat.ble 2 Try.f100.ntmps && wfC an100 Try.f100.ntmps (Try.f100.body.getD .skip)) = true := by kernel_rfl
theorem tie100 (C : Cb) (a0 a1 : V) (H : Hp) (R : List V → Hp → Prop) : wpG Try.prog C an100 (Try.f100.body.getD .skip) (argF [a0, a1]) H (retG Try.prog C Try.f100 R) (fun _ _ _ => False) (retG Try.prog C Try.f100 R) = vc100 C a0 a1 H R := by kernel_rfl
theorem mkE100 (a0 a1 : V) {H : Hp} {Q : V → Hp → Prop} (h : vc100 (real Try.prog) a0 a1 H (retW Q)) : RetE Try.prog 100 [a0, a1] H Q :=
 retE_mk (an := an100) hm Try.call100 Try.func100 rfl wf100 (Eq.mpr (tie100 (real Try.prog) a0 a1 H (retW Q)) h)
def an101 : An := { imm := [], jn := [(4, [0, 1, 2, 7, 8]), (7, [0, 1, 2, 7, 9, 10, 33]), (8, [0, 1, 2, 7, 9]), (11, [1, 7])], lp := [(2, [0, 1, 2, 7])], loud := [], ord := [] }
def vc101 (C : Cb) (a0 a1 a2 : V) (H : Hp) (R : List V → Hp → Prop) : Prop :=
 Jn (fun l1 H2 =>
 C.aBin (Try.prog.underlying 3) .gtr (l1.getD 1 .junk).nod.nod (l1.getD 0 .junk).nod.nod fun v4 =>
 R [v4] H2)
 (fun R3 =>
 LoopA (fun l5 H6 K7 =>
 C.aBin (Try.prog.underlying 3) .mul (I 2) (l5.getD 3 .junk).nod.nod fun v8 =>
 C.aBin (Try.prog.underlying 3) .add v8.nod (I 1) fun v9 =>
 Jn (fun l10 H11 =>
 Jn (fun l13 H14 =>
 C.invE "Less" (l13.getD 0 .junk).nod.nod [(l13.getD 4 .junk).nod.nod, (l13.getD 3 .junk).nod.nod] H14 fun v16 H17 =>
 C.aUn .not v16.nod fun v18 =>
 aCond v18.nod (
 R3 [(l13.getD 1 .junk), (l13.getD 3 .junk)] H17) (
 C.invE "Swap" (l13.getD 0 .junk).nod.nod [(l13.getD 3 .junk).nod.nod, (l13.getD 4 .junk).nod.nod] H17 fun v19 H20 =>
 K7 [(l13.getD 0 .junk), (l13.getD 1 .junk), (l13.getD 2 .junk), (l13.getD 4 .junk).nod] H20))
 (fun R15 =>
 C.aBin (Try.prog.underlying 3) .add (l10.getD 4 .junk).nod.nod (I 1) fun v21 =>
 Jn (fun l22 H23 =>
 aCond (l22.getD 6 .junk).nod (
 R15 [(l22.getD 0 .junk), (l22.getD 1 .junk), (l22.getD 2 .junk), (l22.getD 3 .junk), (l22.getD 5 .junk).nod] H23) (
 R15 [(l22.getD 0 .junk), (l22.getD 1 .junk), (l22.getD 2 .junk), (l22.getD 3 .junk), (l22.getD 4 .junk)] H23))
 (fun R24 =>
 C.aBin (Try.prog.underlying 3) .lss v21.nod.nod (l10.getD 2 .junk).nod.nod fun v25 =>
 Jv (fun v26 H27 =>
 R24 [(l10.getD 0 .junk), (l10.getD 1 .junk), (l10.getD 2 .junk), (l10.getD 3 .junk), (l10.getD 4 .junk).nod, v21, v26] H27)
 (fun R28 =>
 aG v25.nod true (
 C.invE "Less" (l10.getD 0 .junk).nod.nod [v21.nod.nod, (l10.getD 4 .junk).nod.nod] H11 fun v29 H30 =>
 R28 v29.nod H30) (
 R28 (B false) H11)))))
 (fun R12 =>
 C.aBin (Try.prog.underlying 3) .geq v9.nod.nod (l5.getD 2 .junk).nod.nod fun v31 =>
 Jv (fun v32 H33 =>
 aCond v32.nod (
 R3 [(l5.getD 1 .junk), (l5.getD 3 .junk)] H33) (
 R12 [(l5.getD 0 .junk), (l5.getD 1 .junk), (l5.getD 2 .junk), (l5.getD 3 .junk), v9] H33))
 (fun R34 =>
 aG v31.nod false (
 C.aBin (Try.prog.underlying 3) .lss v9.nod.nod (I 0) fun v35 =>
 R34 v35.nod H6) (
 R34 (B true) H6))))
 [a0, a1, a2, a1.nod] H)
theorem wf101 : (Nat.ble 3 Try.f101.ntmps && wfC an101 Try.f101.ntmps (Try.f101.body.getD .skip)) = true := by kernel_rfl
theorem tie101 (C : Cb) (a0 a1 a2 : V) (H : Hp) (R : List V → Hp → Prop) : wpG Try.prog C an101 (Try.f101.body.getD .skip) (argF [a0, a1, a2]) H (retG Try.prog C Try.f101 R) (fun _ _ _ => False) (retG Try.prog C Try.f101 R) = vc101 C a0 a1 a2 H R := by kernel_rfl
theorem mkE101 (a0 a1 a2 : V) {H : Hp} {Q : V → Hp → Prop} (h : vc101 (real Try.prog) a0 a1 a2 H (retW Q)) : RetE Try.prog 101 [a0, a1, a2] H Q :=
 retE_mk (an := an101) hm Try.call101 Try.func101 rfl wf101 (Eq.mpr (tie101 (real Try.prog) a0 a1 a2 H (retW Q)) h)
def an139 : An := { imm := [], jn := [], lp := [], loud := [], ord := [] }
def vc139 (C : Cb) (a0 : V) (H : Hp) (R : List V → Hp → Prop) : Prop :=
 C.aLen a0.nod.nod fun v1 =>
 R [v1] H
theorem wf139 : (Nat.ble 1 Try.f139.ntmps && wfC an139 Try.f139.ntmps (Try.f139.body.getD .skip)) = true := by kernel_rfl
theorem tie139 (C : Cb) (a0 : V) (H : Hp) (R : List V → Hp → Prop) : wpG Try.prog C an139 (Try.f139.body.getD .skip) (argF [a0]) H (retG Try.prog C Try.f139 R) (fun _ _ _ => False) (retG Try.prog C Try.f139 R) = vc139 C a0 H R := by kernel_rfl
theorem mk139 (a0 : V) {H : Hp} {v : V} {H1 : Hp} (hd : v.Nd) (hn : H.length ≤ H1.length) (hb : H1 = H ∨ ∀ (b : Nat) (blk : Blk), H1[b]? = some blk → H[b]? = some blk ∨ BelB H1.length blk) (h : vc139 (real Try.prog) a0 H (retF v H1)) : Ret Try.prog 139 [a0] H v H1 :=
 ret_mk (an := an139) hm Try.call139 Try.func139 rfl wf139 hd hn hb (Eq.mpr (tie139 (real Try.prog) a0 H (retF v H1)) h)
def an140 : An := { imm := [], jn := [(2, [0, 1, 2, 17]), (3, [0, 1, 2])], lp := [], loud := [], ord := [] }
def vc140 (C : Cb) (a0 a1 a2 : V) (H : Hp) (R : List V → Hp → Prop) : Prop :=
 Jn (fun l1 H2 =>
 C.aIx 2 (l1.getD 0 .junk).nod.nod (l1.getD 1 .junk).nod.nod fun v4 =>
 C.aFA 1 1 false v4.nod fun v5 =>
 C.aLd 1 false false v5.nod H2 fun v6 H7 =>
 C.aIx 2 (l1.getD 0 .junk).nod.nod (l1.getD 2 .junk).nod.nod fun v8 =>
 C.aFA 1 1 false v8.nod fun v9 =>
 C.aLd 1 false false v9.nod H7 fun v10 H11 =>
 C.aBin (Try.prog.underlying 3) .gtr v6.nod v10.nod fun v12 =>
 R [v12] H11)
 (fun R3 =>
 Jn (fun l13 H14 =>
 aCond (l13.getD 3 .junk).nod (
 C.aIx 2 (l13.getD 0 .junk).nod.nod (l13.getD 1 .junk).nod.nod fun v16 =>
 C.aFA 0 1 false v16.nod fun v17 =>
 C.aLd 1 false false v17.nod H14 fun v18 H19 =>
 C.aIx 2 (l13.getD 0 .junk).nod.nod (l13.getD 2 .junk).nod.nod fun v20 =>
 C.aFA 0 1 false v20.nod fun v21 =>
 C.aLd 1 false false v21.nod H19 fun v22 H23 =>
 C.aBin (Try.prog.underlying 3) .lss v18.nod v22.nod fun v24 =>
 R [v24] H23) (
 R3 [(l13.getD 0 .junk), (l13.getD 1 .junk), (l13.getD 2 .junk)] H14))
 (fun R15 =>
 C.aIx 2 a0.nod.nod a1.nod.nod fun v25 =>
 C.aFA 0 1 false v25.nod fun v26 =>
 C.aLd 1 false false v26.nod H fun v27 H28 =>
 C.aIx 2 a0.nod.nod a2.nod.nod fun v29 =>
 C.aFA 0 1 false v29.nod fun v30 =>
 C.aLd 1 false false v30.nod H28 fun v31 H32 =>
 C.aBin (Try.prog.underlying 3) .neq v27.nod v31.nod fun v33 =>
 R15 [a0, a1, a2, v33] H32))
theorem wf140 : (Nat.ble 3 Try.f140.ntmps && wfC an140 Try.f140.ntmps (Try.f140.body.getD .skip)) = true := by kernel_rfl
theorem tie140 (C : Cb) (a0 a1 a2 : V) (H : Hp) (R : List V → Hp → Prop) : wpG Try.prog C an140 (Try.f140.body.getD .skip) (argF [a0, a1, a2]) H (retG Try.prog C Try.f140 R) (fun _ _ _ => False) (retG Try.prog C Try.f140 R) = vc140 C a0 a1 a2 H R := by kernel_rfl
theorem mk140 (a0 a1 a2 : V) {H : Hp} {v : V} {H1 : Hp} (hd : v.Nd) (hn : H.length ≤ H1.length) (hb : H1 = H ∨ ∀ (b : Nat) (blk : Blk), H1[b]? = some blk → H[b]? = some blk ∨ BelB H1.length blk) (h : vc140 (real Try.prog) a0 a1 a2 H (retF v H1)) : Ret Try.prog 140 [a0, a1, a2] H v H1 :=
 ret_mk (an := an140) hm Try.call140 Try.func140 rfl wf140 hd hn hb (Eq.mpr (tie140 (real Try.prog) a0 a1 a2 H (retF v H1)) h)
def an141 : An := { imm := [], jn := [], lp := [], loud := [11], ord := [] }
def vc141 (C : Cb) (a0 a1 : V) (H : Hp) (R : List V → Hp → Prop) : Prop :=
 C.aNC a0.nod.nod fun v1 =>
 C.aLd 1 false true v1.nod H fun v2 H3 =>
 C.aTA 135 false a1.nod.nod fun v4 =>
 C.aBS 2 1 (V.agg [(I 0), (I 0)]) [(0, v4.nod)] fun v5 =>
 C.aAppS 2 16 v2 v5.nod H3 fun v6 H7 =>
 C.aNC a0.nod.nod fun v8 =>
 C.aSt 1 v8.nod v6 H7 fun v9 H10 =>
 R [] H10
theorem wf141 : (Nat.ble 2 Try.f141.ntmps && wfC an141 Try.f141.ntmps (Try.f141.body.getD .skip)) = true := by kernel_rfl
theorem tie141 (C : Cb) (a0 a1 : V) (H : Hp) (R : List V → Hp → Prop) : wpG Try.prog C an141 (Try.f141.body.getD .skip) (argF [a0, a1]) H (retG Try.prog C Try.f141 R) (fun _ _ _ => False) (retG Try.prog C Try.f141 R) = vc141 C a0 a1 H R := by kernel_rfl
theorem mkE141 (a0 a1 : V) {H : Hp} {Q : V → Hp → Prop} (h : vc141 (real Try.prog) a0 a1 H (retW Q)) : RetE Try.prog 141 [a0, a1] H Q :=
 retE_mk (an := an141) hm Try.call141 Try.func141 rfl wf141 (Eq.mpr (tie141 (real Try.prog) a0 a1 H (retW Q)) h)
def an142 : An := { imm := [], jn := [], lp := [], loud := [], ord := [] }
def vc142 (C : Cb) (a0 a1 a2 : V) (H : Hp) (R : List V → Hp → Prop) : Prop :=
 C.aIx 2 a0.nod.nod a2.nod.nod fun v1 =>
 C.aLd 2 true false v1.nod H fun v2 H3 =>
 C.aIx 2 a0.nod.nod a1.nod.nod fun v4 =>
 C.aLd 2 true false v4.nod H3 fun v5 H6 =>
 C.aIx 2 a0.nod.nod a1.nod.nod fun v7 =>
 C.aSt 2 v7.nod v2 H6 fun v8 H9 =>
 C.aIx 2 a0.nod.nod a2.nod.nod fun v10 =>
 C.aSt 2 v10.nod v5 H9 fun v11 H12 =>
 R [] H12
theorem wf142 : (Nat.ble 3 Try.f142.ntmps && wfC an142 Try.f142.ntmps (Try.f142.body.getD .skip)) = true := by kernel_rfl
theorem tie142 (C : Cb) (a0 a1 a2 : V) (H : Hp) (R : List V → Hp → Prop) : wpG Try.prog C an142 (Try.f142.body.getD .skip) (argF [a0, a1, a2]) H (retG Try.prog C Try.f142 R) (fun _ _ _ => False) (retG Try.prog C Try.f142 R) = vc142 C a0 a1 a2 H R := by kernel_rfl
theorem mkE142 (a0 a1 a2 : V) {H : Hp} {Q : V → Hp → Prop} (h : vc142 (real Try.prog) a0 a1 a2 H (retW Q)) : RetE Try.prog 142 [a0, a1, a2] H Q :=
 retE_mk (an := an142) hm Try.call142 Try.func142 rfl wf142 (Eq.mpr (tie142 (real Try.prog) a0 a1 a2 H (retW Q)) h)
def an143 : An := { imm := [], jn := [], lp := [], loud := [], ord := [] }
def vc143 (C : Cb) (a0 : V) (H : Hp) (R : List V → Hp → Prop) : Prop :=
 C.aIx 2 a0.nod.nod (I 0) fun v1 =>
 R [v1] H
theorem wf143 : (Nat.ble 1 Try.f143.ntmps && wfC an143 Try.f143.ntmps (Try.f143.body.getD .skip)) = true := by kernel_rfl
theorem tie143 (C : Cb) (a0 : V) (H : Hp) (R : List V → Hp → Prop) : wpG Try.prog C an143 (Try.f143.body.getD .skip) (argF [a0]) H (retG Try.prog C Try.f143 R) (fun _ _ _ => False) (retG Try.prog C Try.f143 R) = vc143 C a0 H R := by kernel_rfl
theorem mk143 (a0 : V) {H : Hp} {v : V} {H1 : Hp} (hd : v.Nd) (hn : H.length ≤ H1.length) (hb : H1 = H ∨ ∀ (b : Nat) (blk : Blk), H1[b]? = some blk → H[b]? = some blk ∨ BelB H1.length blk) (h : vc143 (real Try.prog) a0 H (retF v H1)) : Ret Try.prog 143 [a0] H v H1 :=
 ret_mk (an := an143) hm Try.call143 Try.func143 rfl wf143 hd hn hb (Eq.mpr (tie143 (real Try.prog) a0 H (retF v H1)) h)
end Go.Proofs.Ytgicpobploinhaa
set_option linter.unusedSimpArgs false
set_option linter.unnecessarySimpa false
set_option maxHeartbeats 2000000
namespace Go.Proofs.Ytgicpobploinhaa
open Go Go.Ab Go.Proofs
attribute [local congr] g_bin g_nilS g_nilP g_un g_ext g_bx g_fa g_ld g_st g_ix g_ixA g_slc g_mk g_bs g_bd g_nc g_cv g_len g_lenT g_app g_appB g_cpy g_mm g_call g_callG g_calm g_calmG g_range g_res g_pick g_cond g_loop g_Jv g_eqS g_eqP g_fd g_ixT g_ta g_lkp g_upd g_mkM g_appS g_inv g_callE g_callEG g_invE g_zr g_wr
theorem hMem (l : List Int) {i : Nat} (h : i < l.length) : l.getD i 0 ∈ l := by simp [List.getD_eq_getElem?_getD, h]
theorem getD_some (l : List Int) {i : Nat} (h : i < l.length) : l[i]? = some (l.getD i 0) := by simp [List.getD_eq_getElem?_getD, h]
def inB (n lo hi : Int) : Bool := decide (lo ≤ n) && decide (n ≤ hi)
theorem inB_iff {n lo hi : Int} : inB n lo hi = true ↔ lo ≤ n ∧ n ≤ hi := by simp [inB]
def idxI {α : Type} (p : α → Bool) (l : List α) : Int := match l.findIdx? p with | some i => i | none => -1
theorem idxI_any {α : Type} (p : α → Bool) (l : List α) : decide (0 ≤ idxI p l) = l.any p := by
 unfold idxI
 cases h : l.findIdx? p with
 | some i =>
  have : l.any p = true := by
   rw [List.findIdx?_eq_some_iff_getElem] at h
   obtain ⟨hi, hp, -⟩ := h
   exact List.any_eq_true.2 ⟨_, List.getElem_mem hi, hp⟩
  rw [this]; simp
 | none =>
  have : l.any p = false := by
   rw [List.findIdx?_eq_none_iff] at h
   rw [List.any_eq_false]
   intro x hx; simp [h x hx]
  rw [this]; rfl
theorem idxI_at {α : Type} (p : α → Bool) (l : List α) (i : Nat) (x : α) (hx : l[i]? = some x) (hp : p x = true) (hn : ∀ (j : Nat) (y : α), j < i → l[j]? = some y → p y = false) : idxI p l = i := by
 unfold idxI
 have : l.findIdx? p = some i := by
  rw [List.findIdx?_eq_some_iff_getElem]
  obtain ⟨hi, e⟩ := List.getElem?_eq_some_iff.1 hx
  refine ⟨hi, by rw [e]; exact hp, fun j hj => ?_⟩
  rw [hn j _ hj (List.getElem?_eq_getElem (by omega))]; simp
 rw [this]
theorem idxI_none {α : Type} (p : α → Bool) (l : List α) (hn : ∀ (j : Nat) (y : α), l[j]? = some y → p y = false) : idxI p l = -1 := by
 unfold idxI
 have : l.findIdx? p = none := by
  rw [List.findIdx?_eq_none_iff]
  intro x hx
  obtain ⟨j, hj⟩ := List.mem_iff_getElem?.1 hx
  exact hn j x hj
 rw [this]
theorem any_not {α : Type} (p : α → Bool) (l : List α) : (!(l.any fun x => !p x)) = l.all p := by simp [List.not_any_eq_all_not]
theorem getD_someA {α : Type} (l : List α) (d : α) {i : Nat} (h : i < l.length) : l[i]? = some (l.getD i d) := by simp [List.getD_eq_getElem?_getD, h]
theorem getD_memA {α : Type} (l : List α) (d : α) {i : Nat} (h : i < l.length) : l.getD i d ∈ l := List.mem_of_getElem? (getD_someA l d h)
theorem take_snocA {α : Type} (l : List α) (d : α) {i : Nat} (h : i < l.length) : l.take (i + 1) = l.take i ++ [l.getD i d] := by
 rw [List.take_add_one, getD_someA l d h]; rfl
theorem all_take {α : Type} (l : List α) (d : α) (p : α → Bool) {i : Nat} (h : i < l.length) : (l.take (i + 1)).all p = ((l.take i).all p && p (l.getD i d)) := by rw [take_snocA l d h, List.all_append]; simp
theorem all_bad {α : Type} (l : List α) (d : α) (p : α → Bool) {i : Nat} (h : i < l.length) (hp : p (l.getD i d) = false) : l.all p = false := by
 rw [List.all_eq_false]
 exact ⟨_, getD_memA l d h, by rw [hp]; decide⟩
theorem c55 (n lo hi : Int) (H : Hp) : Ret Try.prog 55 [I n, I lo, I hi] H (B (inB n lo hi)) H := by
 refine mk55 _ _ _ rfl (Nat.le_refl _) (.inl rfl) ?_
 simp only [vc55, real]
 repeat (with_reducible first | refine Ju.go ?_ | (refine Hd.go ?_; intro K Q hK hQ; simp only [nod_imm, Try.underlying3, e_geq, e_leq, e_gT, j_and', j_one]; subst hK hQ) | refine Jr.go ?_)
 exact end1 (fzI _)
theorem c104 (l : List Int) (g : Nat) (cs : List V) (p : Int → Bool) (H : Hp) (hl : l.length ≤ 9223372036854775807) (hg : ∀ x, x ∈ l → Ret Try.prog g (I x :: cs) H (B (p x)) H) : Ret Try.prog 104 [ints l .no, .fn g cs] H (I (idxI p l)) H := by
 refine mk104 _ _ rfl (Nat.le_refl _) (.inl rfl) ?_
 simp only [vc104, real]
 repeat (first | (with_reducible first | refine Ju.go ?_ | (refine Hd.go ?_; intro K Q hK hQ; simp only [nod_ints, nd_no, e_len]; subst hK hQ) | refine Jr.go ?_) | refine sd ?_)
 refine loop_of (fun i : Nat => i ≤ l.length ∧ ∀ (j : Nat) (y : Int), j < i → l[j]? = some y → p y = false) (fun i => [ints l .no, .fn g cs, I l.length, I i]) (fun _ => H) (fun i => l.length - i) 0 ⟨Nat.zero_le _, fun j y h => absurd h (Nat.not_lt_zero _)⟩ rfl rfl ?_
 intro i ⟨hi, hp⟩
 repeat (first | (with_reducible first | refine Ju.go ?_ | (refine Hd.go ?_; intro K Q hK hQ; simp only [List.getD_cons_succ, List.getD_cons_zero, nod_imm, Try.underlying3, e_lss, e_cond, decide_eq_true_eq]; subst hK hQ) | refine Jr.go ?_) | refine sd ?_)
 by_cases hlt : i < l.length
 ·have d : (i : Int) < l.length := by omega
  repeat (first | (with_reducible first | refine Ju.go ?_ | (refine Hd.go ?_; intro K Q hK hQ; simp only [d, if_true, List.getD_cons_zero, nod_ints, nd_no, List.getD_cons_succ, nod_imm, e_ix, Int.toNat_natCast, true_and, nod_cptr, e_ldc, nod_fn, e_callEG]; subst hK hQ) | refine Jr.go ?_) | refine sd ?_)
  refine call_of (hg _ (hMem l hlt)) ?_
  by_cases hb : p (l.getD i 0) = true
  ·rw [hb]
   repeat (first | (with_reducible first | refine Ju.go ?_ | (refine Hd.go ?_; intro K Q hK hQ; simp only [nod_imm, e_cond, if_true]; subst hK hQ) | refine Jr.go ?_) | refine sd ?_)
   rw [idxI_at p l i _ (getD_some l hlt) hb hp]
   exact end1 (fzI _)
  ·rw [Bool.eq_false_iff.2 hb]
   repeat (first | (with_reducible first | refine Ju.go ?_ | (refine Hd.go ?_; intro K Q hK hQ; simp only [nod_imm, e_cond, Bool.false_eq_true, if_false, List.getD_cons_succ, List.getD_cons_zero, Try.underlying3, e_add]; subst hK hQ) | refine Jr.go ?_) | refine sd ?_)
   refine ⟨i + 1, ⟨by omega, fun j y hj hy => ?_⟩, rfl, rfl, by omega⟩
   by_cases e : j = i
   ·subst e
    rw [getD_some l hlt] at hy
    cases hy
    exact Bool.eq_false_iff.2 hb
   ·exact hp j y (by omega) hy
 ·have d : ¬ (i : Int) < l.length := by omega
  repeat (first | (with_reducible first | refine Ju.go ?_ | (refine Hd.go ?_; intro K Q hK hQ; simp only [d, if_false]; subst hK hQ) | refine Jr.go ?_) | refine sd ?_)
  rw [idxI_none p l (fun j y hy => hp j y (by have := (List.getElem?_eq_some_iff.1 hy).1; omega) hy)]
  exact end1 (fzI _)
theorem c79 (l : List Int) (g : Nat) (cs : List V) (p : Int → Bool) (H : Hp) (hl : l.length ≤ 9223372036854775807) (hg : ∀ x, x ∈ l → Ret Try.prog g (I x :: cs) H (B (p x)) H) : Ret Try.prog 79 [ints l .no, .fn g cs] H (B (l.any p)) H := by
 refine mk79 _ _ rfl (Nat.le_refl _) (.inl rfl) ?_
 simp only [vc79, real]
 repeat (first | (with_reducible first | refine Ju.go ?_ | (refine Hd.go ?_; intro K Q hK hQ; simp only [nod_ints, nd_no, nod_fn]; subst hK hQ) | refine Jr.go ?_) | refine sd ?_)
 refine call_of (c104 l g cs p H hl hg) ?_
 repeat (first | (with_reducible first | refine Ju.go ?_ | (refine Hd.go ?_; intro K Q hK hQ; simp only [nod_imm, Try.underlying3, e_geq, idxI_any]; subst hK hQ) | refine Jr.go ?_) | refine sd ?_)
 exact end1 (fzI _)
abbrev liV (l : List Int) : V := ints l .no
theorem ix_li (l : List (List Int)) (f : Fl) (i : Int) {K : V → Prop} : aIx 1 (.arr (l.map liV) f) (I i) K = (0 ≤ i ∧ i < l.length ∧ K (.cptr (liV (l.getD i.toNat [])))) := e_ixE liV [] (fun _ => rfl) l f i
theorem c105 (l : List (List Int)) (g : Nat) (cs : List V) (p : (List Int) → Bool) (H : Hp) (hl : l.length ≤ 9223372036854775807) (hg : ∀ x, x ∈ l → Ret Try.prog g (liV x :: cs) H (B (p x)) H) : Ret Try.prog 105 [.arr (l.map liV) .no, .fn g cs] H (I (idxI p l)) H := by
 refine mk105 _ _ rfl (Nat.le_refl _) (.inl rfl) ?_
 simp only [vc105, real]
 repeat (first | (with_reducible first | refine Ju.go ?_ | (refine Hd.go ?_; intro K Q hK hQ; simp only [nod_arr, nd_no, e_lenA, List.length_map]; subst hK hQ) | refine Jr.go ?_) | refine sd ?_)
 refine loop_of (fun i : Nat => i ≤ l.length ∧ ∀ (j : Nat) (y : (List Int)), j < i → l[j]? = some y → p y = false) (fun i => [.arr (l.map liV) .no, .fn g cs, I l.length, I i]) (fun _ => H) (fun i => l.length - i) 0 ⟨Nat.zero_le _, fun j y h => absurd h (Nat.not_lt_zero _)⟩ rfl rfl ?_
 intro i ⟨hi, hp⟩
 repeat (first | (with_reducible first | refine Ju.go ?_ | (refine Hd.go ?_; intro K Q hK hQ; simp only [List.getD_cons_succ, List.getD_cons_zero, nod_imm, Try.underlying3, e_lss, e_cond, decide_eq_true_eq]; subst hK hQ) | refine Jr.go ?_) | refine sd ?_)
 by_cases hlt : i < l.length
 ·have d : (i : Int) < l.length := by omega
  repeat (first | (with_reducible first | refine Ju.go ?_ | (refine Hd.go ?_; intro K Q hK hQ; simp only [d, if_true, List.getD_cons_zero, nod_arr, nd_no, List.getD_cons_succ, nod_imm, ix_li, Int.toNat_natCast, true_and, nod_cptr, e_ldci, nod_fn, nod_ints, e_callEG]; subst hK hQ) | refine Jr.go ?_) | refine sd ?_)
  refine call_of (hg _ (getD_memA l [] hlt)) ?_
  by_cases hb : p (l.getD i []) = true
  ·rw [hb]
   repeat (first | (with_reducible first | refine Ju.go ?_ | (refine Hd.go ?_; intro K Q hK hQ; simp only [nod_imm, e_cond, if_true]; subst hK hQ) | refine Jr.go ?_) | refine sd ?_)
   rw [idxI_at p l i _ (getD_someA l [] hlt) hb hp]
   exact end1 (fzI _)
  ·rw [Bool.eq_false_iff.2 hb]
   repeat (first | (with_reducible first | refine Ju.go ?_ | (refine Hd.go ?_; intro K Q hK hQ; simp only [nod_imm, e_cond, Bool.false_eq_true, if_false, List.getD_cons_succ, List.getD_cons_zero, Try.underlying3, e_add]; subst hK hQ) | refine Jr.go ?_) | refine sd ?_)
   refine ⟨i + 1, ⟨by omega, fun j y hj hy => ?_⟩, rfl, rfl, by omega⟩
   by_cases e : j = i
   ·subst e
    rw [getD_someA l [] hlt] at hy
    cases hy
    exact Bool.eq_false_iff.2 hb
   ·exact hp j y (by omega) hy
 ·have d : ¬ (i : Int) < l.length := by omega
  repeat (first | (with_reducible first | refine Ju.go ?_ | (refine Hd.go ?_; intro K Q hK hQ; simp only [d, if_false]; subst hK hQ) | refine Jr.go ?_) | refine sd ?_)
  rw [idxI_none p l (fun j y hy => hp j y (by have := (List.getElem?_eq_some_iff.1 hy).1; omega) hy)]
  exact end1 (fzI _)
theorem c83 (l : List (List Int)) (g : Nat) (cs : List V) (p : (List Int) → Bool) (H : Hp) (hl : l.length ≤ 9223372036854775807) (hg : ∀ x, x ∈ l → Ret Try.prog g (liV x :: cs) H (B (p x)) H) : Ret Try.prog 83 [.arr (l.map liV) .no, .fn g cs] H (B (l.any p)) H := by
 refine mk83 _ _ rfl (Nat.le_refl _) (.inl rfl) ?_
 simp only [vc83, real]
 repeat (first | (with_reducible first | refine Ju.go ?_ | (refine Hd.go ?_; intro K Q hK hQ; simp only [nod_arr, nd_no, nod_fn]; subst hK hQ) | refine Jr.go ?_) | refine sd ?_)
 refine call_of (c105 l g cs p H hl hg) ?_
 repeat (first | (with_reducible first | refine Ju.go ?_ | (refine Hd.go ?_; intro K Q hK hQ; simp only [nod_imm, Try.underlying3, e_geq, idxI_any]; subst hK hQ) | refine Jr.go ?_) | refine sd ?_)
 exact end1 (fzI _)
theorem eq_take {α : Type} [DecidableEq α] (a b : List α) (d : α) {i : Nat} (h1 : i < a.length) (h2 : i < b.length) (h : a.take i = b.take i) (he : a.getD i d = b.getD i d) : a.take (i + 1) = b.take (i + 1) := by
 rw [take_snocA a d h1, take_snocA b d h2, h, he]
theorem ne_at {α : Type} (a b : List α) (d : α) {i : Nat} (he : a.getD i d ≠ b.getD i d) : a ≠ b := fun h => he (by rw [h])
theorem c58 (a b : List Int) (f g : Fl) (H : Hp) (ha : a.length ≤ 1000000000000000) (hf : f = .no ∨ f = .full) (hg : g = .no ∨ g = .full) : Ret Try.prog 58 [ints a f, ints b g] H (B (decide (a = b))) H := by
 have nf : (ints a f).nod = ints a f := by rcases hf with rfl | rfl <;> rfl
 have ng : (ints b g).nod = ints b g := by rcases hg with rfl | rfl <;> rfl
 refine mk58 _ _ rfl (Nat.le_refl _) (.inl rfl) ?_
 simp only [vc58, real]
 repeat (first | (with_reducible first | refine Ju.go ?_ | (refine Hd.go ?_; intro K Q hK hQ; simp only [nf, e_len, ng, nod_imm, Try.underlying3, e_neq, e_cond, Bool.not_eq_true', decide_eq_false_iff_not]; subst hK hQ) | refine Jr.go ?_) | refine sd ?_)
 by_cases hl : a.length = b.length
 ·have dl : (a.length : Int) = b.length := by omega
  repeat (first | (with_reducible first | refine Ju.go ?_ | (refine Hd.go ?_; intro K Q hK hQ; simp only [dl, not_true_eq_false, if_false]; subst hK hQ) | refine Jr.go ?_) | refine sd ?_)
  refine loop_of (fun i : Nat => i ≤ a.length ∧ a.take i = b.take i) (fun i => [ints a f, ints b g, I i]) (fun _ => H) (fun i => a.length - i) 0 ⟨Nat.zero_le _, rfl⟩ rfl rfl ?_
  intro i ⟨hi, hp⟩
  repeat (first | (with_reducible first | refine Ju.go ?_ | (refine Hd.go ?_; intro K Q hK hQ; simp only [List.getD_cons_zero, nf, e_len, List.getD_cons_succ, nod_imm, Try.underlying3, e_lss, e_cond, decide_eq_true_eq]; subst hK hQ) | refine Jr.go ?_) | refine sd ?_)
  by_cases hlt : i < a.length
  ·have d : (i : Int) < b.length := by omega
   have d1 : (i : Int) < a.length := by omega
   by_cases he : a.getD i 0 = b.getD i 0
   ·repeat (first | (with_reducible first | refine Ju.go ?_ | (refine Hd.go ?_; intro K Q hK hQ; simp only [dl, d, if_true, List.getD_cons_zero, nf, List.getD_cons_succ, nod_imm, e_ix, Int.toNat_natCast, he, true_and, nod_cptr, e_ldc, ng, Try.underlying3, e_neq, decide_true, Bool.not_true, e_cond, Bool.false_eq_true, if_false, e_add]; subst hK hQ) | refine Jr.go ?_) | refine sd ?_)
    exact ⟨i + 1, ⟨by omega, eq_take a b 0 hlt (by omega) hp he⟩, rfl, rfl, by omega⟩
   ·repeat (first | (with_reducible first | refine Ju.go ?_ | (refine Hd.go ?_; intro K Q hK hQ; simp only [dl, d, if_true, List.getD_cons_zero, nf, List.getD_cons_succ, nod_imm, e_ix, Int.toNat_natCast, true_and, nod_cptr, e_ldc, ng, Try.underlying3, e_neq, he, decide_false, Bool.not_false, e_cond]; subst hK hQ) | refine Jr.go ?_) | refine sd ?_)
    rw [decide_eq_false (ne_at a b 0 he)]
    exact end1 (fzI _)
  ·have d : ¬ (i : Int) < b.length := by omega
   have d1 : ¬ (i : Int) < a.length := by omega
   repeat (first | (with_reducible first | refine Ju.go ?_ | (refine Hd.go ?_; intro K Q hK hQ; simp only [dl, d, if_false]; subst hK hQ) | refine Jr.go ?_) | refine sd ?_)
   rw [List.take_of_length_le (by omega), List.take_of_length_le (by omega)] at hp
   rw [decide_eq_true hp]
   exact end1 (fzI _)
 ·have dl : ¬ (a.length : Int) = b.length := by omega
  repeat (first | (with_reducible first | refine Ju.go ?_ | (refine Hd.go ?_; intro K Q hK hQ; simp only [dl, not_false_eq_true, if_true]; subst hK hQ) | refine Jr.go ?_) | refine sd ?_)
  rw [decide_eq_false (fun h => hl (by rw [h]))]
  exact end1 (fzI _)
theorem c25 (a b : List Int) (f g : Fl) (H : Hp) (ha : a.length ≤ 1000000000000000) (hf : f = .no ∨ f = .full) (hg : g = .no ∨ g = .full) : Ret Try.prog 25 [ints a f, ints b g] H (B (decide (a = b))) H := by
 have nf : (ints a f).nod = ints a f := by rcases hf with rfl | rfl <;> rfl
 have ng : (ints b g).nod = ints b g := by rcases hg with rfl | rfl <;> rfl
 refine mk25 _ _ rfl (Nat.le_refl _) (.inl rfl) ?_
 simp only [vc25, real]
 repeat (first | (with_reducible first | refine Ju.go ?_ | (refine Hd.go ?_; intro K Q hK hQ; simp only [nf, ng]; subst hK hQ) | refine Jr.go ?_) | refine sd ?_)
 refine call_of (c58 a b f g H ha hf hg) ?_
 repeat (first | (with_reducible first | refine Ju.go ?_ | (refine Hd.go ?_; intro K Q hK hQ; simp only []; subst hK hQ) | refine Jr.go ?_) | refine sd ?_)
 exact end1 (fzI _)
structure Sou where
 so : List Int
 pk : Int
 on : List (List Int)
abbrev souV (s : Sou) : V := .agg [ints s.so .no, I s.pk, .arr (s.on.map liV) .no]
structure SmS (s : Sou) : Prop where
 so : s.so.length ≤ 9223372036854775807
 on : s.on.length ≤ 9223372036854775807
 ol : ∀ o, o ∈ s.on → o.length ≤ 9223372036854775807
def okLi (s : Sou) (l : List Int) : Bool := l.all fun p => inB p 1 s.so.length
def nuc (s : Sou) (p : Int) : Bool := decide (s.pk ≤ s.so.getD (p - 1).toNat 0)
def okOn (s : Sou) (o : List Int) : Bool := inB o.length 1 4 && okLi s o && o.all fun p => !nuc s p
def okHs (s : Sou) : Bool := inB s.so.length 1 200 && inB s.pk 0 9 && decide (s.on.length ≤ 300)
def okS (s : Sou) : Bool := okHs s && (s.so.all fun x => inB x 0 9) && s.on.all (okOn s)
theorem c82 (s : Sou) (p : Int) (H : Hp) : Ret Try.prog 82 [I p, .cptr (souV s)] H (B (!inB p 1 s.so.length)) H := by
 refine mk82 _ _ rfl (Nat.le_refl _) (.inl rfl) ?_
 simp only [vc82, real]
 repeat (first | (with_reducible first | refine Ju.go ?_ | (refine Hd.go ?_; intro K Q hK hQ; simp only [nod_cptr, e_fac, Nat.zero_add, lv_cons, List.length_nil, Nat.reduceAdd, Nat.reduceLeDiff, List.getD_cons_zero, true_and, e_ldci, nod_ints, nd_no, e_len, nod_imm]; subst hK hQ) | refine Jr.go ?_) | refine sd ?_)
 refine call_of (c55 _ _ _ _) ?_
 repeat (first | (with_reducible first | refine Ju.go ?_ | (refine Hd.go ?_; intro K Q hK hQ; simp only [nod_imm, e_not]; subst hK hQ) | refine Jr.go ?_) | refine sd ?_)
 exact end1 (fzI _)
theorem c50 (s : Sou) (l : List Int) (H : Hp) (hl : l.length ≤ 9223372036854775807) : Ret Try.prog 50 [souV s, ints l .no] H (B (okLi s l)) H := by
 refine mk50 _ _ rfl (Nat.le_refl _) (.inl rfl) ?_
 simp only [vc50, real]
 repeat (first | (with_reducible first | refine Ju.go ?_ | (refine Hd.go ?_; intro K Q hK hQ; simp only [nod_agg, List.map_cons, nodL_ints, nd_no, nodL_imm, nodL_arr, List.map_nil, e_bxI, okE_agg, lv_cons, List.length_nil, Nat.zero_add, Nat.reduceAdd, all_c, ck_ints, ck_I, ck_arr, all_n, Bool.and_self, and_true, true_and, nod_ints, nod_cptr]; subst hK hQ) | refine Jr.go ?_) | refine sd ?_)
 refine call_of (c79 l 82 _ (fun p => !inB p 1 s.so.length) _ hl fun x _ => c82 s x _) ?_
 repeat (first | (with_reducible first | refine Ju.go ?_ | (refine Hd.go ?_; intro K Q hK hQ; simp only [nod_imm, e_not, any_not]; subst hK hQ) | refine Jr.go ?_) | refine sd ?_)
 exact end1 (fzI _)
theorem c51 (s : Sou) (p : Int) (H : Hp) (hp : inB p 1 s.so.length = true) (hl : s.so.length ≤ 9223372036854775807) : Ret Try.prog 51 [souV s, I p] H (B (nuc s p)) H := by
 rw [inB_iff] at hp
 have r : R64 (p - 1) := by unfold R64; omega
 have b0 : 0 ≤ p - 1 := by omega
 have b1 : p - 1 < s.so.length := by omega
 refine mk51 _ _ rfl (Nat.le_refl _) (.inl rfl) ?_
 simp only [vc51, real]
 repeat (first | (with_reducible first | refine Ju.go ?_ | (refine Hd.go ?_; intro K Q hK hQ; simp only [nod_agg, List.map_cons, nodL_ints, nd_no, nodL_imm, nodL_arr, List.map_nil, e_bxI, okE_agg, lv_cons, List.length_nil, Nat.zero_add, Nat.reduceAdd, all_c, ck_ints, ck_I, ck_arr, all_n, Bool.and_self, and_true, true_and, nod_cptr, e_fac, Nat.reduceLeDiff, List.getD_cons_zero, e_ldci, nod_imm, Try.underlying3, e_sub, r, nod_ints, e_ix, b0, b1, e_ldc, List.getD_cons_succ, e_geq]; subst hK hQ) | refine Jr.go ?_) | refine sd ?_)
 exact end1 (fzI _)
theorem c81 (s : Sou) (p : Int) (H : Hp) (hp : inB p 1 s.so.length = true) (hl : s.so.length ≤ 9223372036854775807) : Ret Try.prog 81 [I p, .cptr (souV s)] H (B (nuc s p)) H := by
 refine mk81 _ _ rfl (Nat.le_refl _) (.inl rfl) ?_
 simp only [vc81, real]
 repeat (first | (with_reducible first | refine Ju.go ?_ | (refine Hd.go ?_; intro K Q hK hQ; simp only [nod_cptr, e_ldcA, lv_cons, List.length_nil, Nat.zero_add, Nat.reduceAdd, true_and, nod_agg, List.map_cons, nodL_ints, nd_no, nodL_imm, nodL_arr, List.map_nil, nod_imm]; subst hK hQ) | refine Jr.go ?_) | refine sd ?_)
 refine call_of (c51 s p _ hp hl) ?_
 repeat (first | (with_reducible first | refine Ju.go ?_ | (refine Hd.go ?_; intro K Q hK hQ; simp only []; subst hK hQ) | refine Jr.go ?_) | refine sd ?_)
 exact end1 (fzI _)
theorem c80 (x : Int) (H : Hp) : Ret Try.prog 80 [I x] H (B (!inB x 0 9)) H := by
 refine mk80 _ rfl (Nat.le_refl _) (.inl rfl) ?_
 simp only [vc80, real]
 repeat (first | (with_reducible first | refine Ju.go ?_ | (refine Hd.go ?_; intro K Q hK hQ; simp only [nod_imm]; subst hK hQ) | refine Jr.go ?_) | refine sd ?_)
 refine call_of (c55 _ _ _ _) ?_
 repeat (first | (with_reducible first | refine Ju.go ?_ | (refine Hd.go ?_; intro K Q hK hQ; simp only [nod_imm, e_not]; subst hK hQ) | refine Jr.go ?_) | refine sd ?_)
 exact end1 (fzI _)
theorem okLi_mem {s : Sou} {l : List Int} (h : okLi s l = true) {x : Int} (hx : x ∈ l) : inB x 1 s.so.length = true := List.all_eq_true.1 h x hx
theorem c49 (s : Sou) (H : Hp) (sm : SmS s) : Ret Try.prog 49 [souV s] H (B (okS s)) H := by
 refine mk49 _ rfl (Nat.le_refl _) (.inl rfl) ?_
 simp only [vc49, real]
 repeat (first | (with_reducible first | refine Ju.go ?_ | (refine Hd.go ?_; intro K Q hK hQ; simp only [nod_agg, List.map_cons, nodL_ints, nd_no, nodL_imm, nodL_arr, List.map_nil, e_bxI, okE_agg, lv_cons, List.length_nil, Nat.zero_add, Nat.reduceAdd, all_c, ck_ints, ck_I, ck_arr, all_n, Bool.and_self, and_true, true_and, nod_cptr, e_fac, Nat.reduceLeDiff, List.getD_cons_zero, e_ldci, nod_ints, e_len, nod_imm]; subst hK hQ) | refine Jr.go ?_) | refine sd ?_)
 refine call_of (c55 _ _ _ _) ?_
 repeat (first | (with_reducible first | refine Ju.go ?_ | (refine Hd.go ?_; intro K Q hK hQ; simp only [nod_imm, e_not, nod_cptr, e_fac, Nat.reduceAdd, lv_cons, List.length_nil, Nat.zero_add, Nat.reduceLeDiff, List.getD_cons_succ, List.getD_cons_zero, e_ldc, true_and, e_gF]; subst hK hQ) | refine Jr.go ?_) | refine sd ?_)
 refine jo_n (c55 _ _ _ _) ?_
 repeat (first | (with_reducible first | refine Ju.go ?_ | (refine Hd.go ?_; intro K Q hK hQ; simp only [nod_imm, nod_cptr, Try.underlying3, e_fac, Nat.reduceAdd, lv_cons, List.length_nil, Nat.zero_add, Nat.reduceLeDiff, List.getD_cons_succ, List.getD_cons_zero, e_ldcV, nod_arr, nd_no, e_lenA, List.length_map, e_gtr, true_and, e_gF, j_or', j_one, e_ldci, nod_ints]; subst hK hQ) | refine Jr.go ?_) | refine sd ?_)
 refine jo_d (c79 s.so 80 [] (fun x => !inB x 0 9) _ sm.so fun x _ => c80 x _) ?_
 have e1 : (!inB s.so.length 1 200 || !inB s.pk 0 9 || decide (300 < (s.on.length : Int)) || s.so.any fun x => !inB x 0 9) = !(okHs s && s.so.all fun x => inB x 0 9) := by
  unfold okHs
  have a1 : decide (300 < (s.on.length : Int)) = !decide (s.on.length ≤ 300) := by rw [← decide_not, decide_eq_decide]; omega
  have a2 : (s.so.any fun x => !inB x 0 9) = !(s.so.all fun x => inB x 0 9) := by rw [← any_not, Bool.not_not]
  rw [a1, a2]
  simp only [Bool.not_and]
 rw [e1]
 have eS : okS s = ((okHs s && s.so.all fun x => inB x 0 9) && s.on.all (okOn s)) := rfl
 rw [eS]
 generalize (okHs s && s.so.all fun x => inB x 0 9) = b at *
 cases b
 ·repeat (first | (with_reducible first | refine Ju.go ?_ | (refine Hd.go ?_; intro K Q hK hQ; simp only [Bool.not_false, List.getD_cons_succ, List.getD_cons_zero, nod_imm, e_cond, if_true]; subst hK hQ) | refine Jr.go ?_) | refine sd ?_)
  exact end1 (fzI _)
 ·repeat (first | (with_reducible first | refine Ju.go ?_ | (refine Hd.go ?_; intro K Q hK hQ; simp only [Bool.not_true, List.getD_cons_succ, List.getD_cons_zero, nod_imm, e_cond, Bool.false_eq_true, if_false, nod_cptr, e_fac, Nat.reduceAdd, lv_cons, List.length_nil, Nat.zero_add, Nat.reduceLeDiff, true_and, e_ldcV, nod_arr, nd_no, e_lenA, List.length_map]; subst hK hQ) | refine Jr.go ?_) | refine sd ?_)
  refine loop_of (fun i : Nat => i ≤ s.on.length ∧ (s.on.take i).all (okOn s) = true) (fun i => [.cptr (souV s), .arr (s.on.map liV) .no, I s.on.length, I i]) (fun _ => H) (fun i => s.on.length - i) 0 ⟨Nat.zero_le _, rfl⟩ rfl rfl ?_
  intro i ⟨hi, hp⟩
  have hol := sm.on
  repeat (first | (with_reducible first | refine Ju.go ?_ | (refine Hd.go ?_; intro K Q hK hQ; simp only [List.getD_cons_succ, List.getD_cons_zero, nod_imm, Try.underlying3, e_lss, e_cond, decide_eq_true_eq]; subst hK hQ) | refine Jr.go ?_) | refine sd ?_)
  by_cases hlt : i < s.on.length
  ·have d : (i : Int) < s.on.length := by omega
   have hmem := getD_memA s.on [] hlt
   have hle := sm.ol _ hmem
   repeat (first | (with_reducible first | refine Ju.go ?_ | (refine Hd.go ?_; intro K Q hK hQ; simp only [d, if_true, List.getD_cons_succ, List.getD_cons_zero, nod_arr, nd_no, nod_imm, ix_li, Int.toNat_natCast, true_and, nod_cptr, e_ldci, nod_ints, e_len]; subst hK hQ) | refine Jr.go ?_) | refine sd ?_)
   refine call_of (c55 _ _ _ _) ?_
   repeat (first | (with_reducible first | refine Ju.go ?_ | (refine Hd.go ?_; intro K Q hK hQ; simp only [nod_imm, e_not, List.getD_cons_zero, nod_cptr, nod_ints, nd_no, e_ldcA, lv_cons, List.length_nil, Nat.zero_add, Nat.reduceAdd, nod_agg, List.map_cons, nodL_ints, nodL_imm, nodL_arr, List.map_nil, true_and, e_gF]; subst hK hQ) | refine Jr.go ?_) | refine sd ?_)
   refine jo_n (c50 s _ _ hle) ?_
   have bad : okOn s (s.on.getD i []) = false → (true && s.on.all (okOn s)) = false := fun h => all_bad s.on [] _ hlt h
   have eo : okOn s (s.on.getD i []) = (inB (s.on.getD i []).length 1 4 && okLi s (s.on.getD i []) && (s.on.getD i []).all fun p => !nuc s p) := rfl
   rw [← Bool.not_and]
   cases hb : (inB (s.on.getD i []).length 1 4 && okLi s (s.on.getD i []))
   ·rw [hb] at eo
    repeat (first | (with_reducible first | refine Ju.go ?_ | (refine Hd.go ?_; intro K Q hK hQ; simp only [Bool.not_false, nod_imm, nod_ints, nd_no, List.getD_cons_zero, nod_cptr, e_gF, cond_true, j_one, List.getD_cons_succ, e_cond, if_true]; subst hK hQ) | refine Jr.go ?_) | refine sd ?_)
    rw [bad eo]
    exact end1 (fzI _)
   ·rw [hb, Bool.true_and] at eo
    rw [Bool.and_eq_true] at hb
    repeat (first | (with_reducible first | refine Ju.go ?_ | (refine Hd.go ?_; intro K Q hK hQ; simp only [Bool.not_true, nod_imm, nod_ints, nd_no, List.getD_cons_zero, nod_cptr, e_gF, cond_false]; subst hK hQ) | refine Jr.go ?_) | refine sd ?_)
    refine call_of (c79 (s.on.getD i []) 81 _ (nuc s) _ hle fun x hx => c81 s x _ (okLi_mem hb.2 hx) sm.so) ?_
    have e2 : ((s.on.getD i []).all fun p => !nuc s p) = !(s.on.getD i []).any (nuc s) := by rw [← any_not]; simp
    rw [e2] at eo
    cases hn : (s.on.getD i []).any (nuc s)
    ·rw [hn] at eo
     repeat (first | (with_reducible first | refine Ju.go ?_ | (refine Hd.go ?_; intro K Q hK hQ; simp only [nod_imm, List.getD_cons_zero, List.getD_cons_succ, e_cond, Bool.false_eq_true, if_false, Try.underlying3, e_add]; subst hK hQ) | refine Jr.go ?_) | refine sd ?_)
     exact ⟨i + 1, ⟨by omega, by rw [all_take s.on [] _ hlt, hp, eo]; rfl⟩, rfl, rfl, by omega⟩
    ·rw [hn] at eo
     repeat (first | (with_reducible first | refine Ju.go ?_ | (refine Hd.go ?_; intro K Q hK hQ; simp only [nod_imm, List.getD_cons_zero, List.getD_cons_succ, e_cond, if_true]; subst hK hQ) | refine Jr.go ?_) | refine sd ?_)
     rw [bad eo]
     exact end1 (fzI _)
  ·have d : ¬ (i : Int) < s.on.length := by omega
   rw [List.take_of_length_le (by omega)] at hp
   repeat (first | (with_reducible first | refine Ju.go ?_ | (refine Hd.go ?_; intro K Q hK hQ; simp only [d, if_false]; subst hK hQ) | refine Jr.go ?_) | refine sd ?_)
   rw [hp]
   exact end1 (fzI _)
structure Tim where
 us : Int
 le : Int
 st : Bool
 ac : Bool
 fi : Int
 cl : Int
structure Drl where
 k : Int
 b : Int
 p : Int
deriving Inhabited
abbrev tiV (p : Tim) : V := .agg [I p.us, I p.le, B p.st, B p.ac, I p.fi, I p.cl]
abbrev drV (r : Drl) : V := .agg [I r.k, I r.b, I r.p]
theorem ix_dr (l : List Drl) (f : Fl) (i : Int) {K : V → Prop} : aIx 3 (.arr (l.map drV) f) (I i) K = (0 ≤ i ∧ i < l.length ∧ K (.cptr (drV (l.getD i.toNat default)))) := e_ixE drV default (fun _ => rfl) l f i
def okTi (p : Tim) : Bool := inB p.le 1 2000 && inB p.us p.le 2000 && inB p.fi 0 2 && inB p.cl 0 9
def okDr (r : Drl) : Bool := inB r.k 1 5 && inB r.b 0 9 && inB r.p 1 1000
def okDs (l : List Drl) : Bool := decide (l.length ≤ 40) && l.all okDr
def hldP (p : Tim) (r : Drl) : Bool :=
 if r.k = 1 then p.st else if r.k = 2 then !p.st else if r.k = 3 then p.ac else if r.k = 4 then decide (0 < p.fi) && decide (r.b ≤ p.fi) else decide (r.b ≤ p.cl)
def pc1 (n p : Int) : Int := (n * p + 50) / 100
def pcA (p : Tim) (l : List Drl) : Int := l.foldl (fun a r => if hldP p r = true then min 10000 (pc1 a r.p) else a) 100
def durP (p : Tim) (l : List Drl) : Int := p.le + pc1 (p.us - p.le) (pcA p l)
theorem pcA_snoc (p : Tim) (l : List Drl) (r : Drl) : pcA p (l ++ [r]) = if hldP p r = true then min 10000 (pc1 (pcA p l) r.p) else pcA p l := by unfold pcA; rw [List.foldl_append]; rfl
theorem mul_bd {a b x y : Int} (h0 : 0 ≤ a) (h1 : a ≤ x) (k0 : 0 ≤ b) (k1 : b ≤ y) : 0 ≤ a * b ∧ a * b ≤ x * y := ⟨Int.mul_nonneg h0 k0, Int.mul_le_mul h1 k1 k0 (by omega)⟩
theorem pc1_nn {n p : Int} (h : 0 ≤ n) (k : 0 ≤ p) : 0 ≤ pc1 n p := by
 have := Int.mul_nonneg h k
 unfold pc1; omega
theorem snocI {α : Type} {m : List α → Prop} (h0 : m []) (h1 : ∀ l x, m l → m (l ++ [x])) (l : List α) : m l := by
 rw [← List.reverse_reverse l]
 induction l.reverse with
 | nil => exact h0
 | cons x t ih => rw [List.reverse_cons]; exact h1 _ _ ih
theorem pcA_rng (p : Tim) (l : List Drl) (h : ∀ r, r ∈ l → 0 ≤ r.p) : 0 ≤ pcA p l ∧ pcA p l ≤ 10000 := by
 revert h
 refine snocI (m := fun l => (∀ r, r ∈ l → 0 ≤ r.p) → 0 ≤ pcA p l ∧ pcA p l ≤ 10000) (fun _ => by unfold pcA; simp) (fun l x ih h => ?_) l
 have := ih fun r hr => h r (List.mem_append_left _ hr)
 rw [pcA_snoc]
 have hx := pc1_nn this.1 (h x (by simp))
 split <;> omega
theorem pc2 {n p : Int} (h : 0 ≤ n) (k : 0 ≤ p) : (2 * n * p + 100).tdiv 200 = pc1 n p ∧ (n * p + 50).tdiv 100 = pc1 n p := by
 have h1 := Int.mul_nonneg h k
 have e : 2 * n * p = 2 * (n * p) := Int.mul_assoc 2 n p
 unfold pc1
 rw [e, Int.tdiv_eq_ediv_of_nonneg (by omega), Int.tdiv_eq_ediv_of_nonneg (by omega)]
 omega
theorem c67 (n p : Int) (H : Hp) (h0 : 0 ≤ n) (h1 : n ≤ 10000) (k0 : 0 ≤ p) (k1 : p ≤ 10000) : Ret Try.prog 67 [I n, I p] H (I (pc1 n p)) H := by
 have hb := mul_bd h0 h1 k0 k1
 have e : 2 * n * p = 2 * (n * p) := Int.mul_assoc 2 n p
 have r1 : R64 (2 * n) := by unfold R64; omega
 have r2 : R64 (2 * n * p) := by unfold R64; omega
 have r3 : R64 (2 * n * p + 100) := by unfold R64; omega
 have hp := (pc2 h0 k0).1
 have r4 : R64 ((2 * n * p + 100).tdiv 200) := by rw [hp]; unfold R64 pc1; omega
 refine mk67 _ _ rfl (Nat.le_refl _) (.inl rfl) ?_
 simp only [vc67, real]
 repeat (first | (with_reducible first | refine Ju.go ?_ | (refine Hd.go ?_; intro K Q hK hQ; simp only [nod_imm, Try.underlying3, e_mul, r1, true_and, r2, e_add, r3, e_quo, ne_eq, Int.reduceEq, not_false_eq_true, r4]; subst hK hQ) | refine Jr.go ?_) | refine sd ?_)
 rw [hp]
 exact end1 (fzI _)
theorem c93 (p : Tim) (r : Drl) (H : Hp) : Ret Try.prog 93 [drV r, .cptr (tiV p)] H (B p.st) H := by
 refine mk93 _ _ rfl (Nat.le_refl _) (.inl rfl) ?_
 simp only [vc93, real]
 repeat (first | (with_reducible first | refine Ju.go ?_ | (refine Hd.go ?_; intro K Q hK hQ; simp only [nod_agg, List.map_cons, nodL_imm, List.map_nil, e_bxI, okE_agg, lv_cons, List.length_nil, Nat.zero_add, Nat.reduceAdd, all_c, ck_I, all_n, Bool.and_self, and_true, true_and, nod_cptr, e_fac, Nat.reduceLeDiff, List.getD_cons_succ, List.getD_cons_zero, e_ldc]; subst hK hQ) | refine Jr.go ?_) | refine sd ?_)
 exact end1 (fzI _)
theorem c94 (p : Tim) (r : Drl) (H : Hp) : Ret Try.prog 94 [drV r, .cptr (tiV p)] H (B (!p.st)) H := by
 refine mk94 _ _ rfl (Nat.le_refl _) (.inl rfl) ?_
 simp only [vc94, real]
 repeat (first | (with_reducible first | refine Ju.go ?_ | (refine Hd.go ?_; intro K Q hK hQ; simp only [nod_agg, List.map_cons, nodL_imm, List.map_nil, e_bxI, okE_agg, lv_cons, List.length_nil, Nat.zero_add, Nat.reduceAdd, all_c, ck_I, all_n, Bool.and_self, and_true, true_and, nod_cptr, e_fac, Nat.reduceLeDiff, List.getD_cons_succ, List.getD_cons_zero, e_ldc, nod_imm, e_not]; subst hK hQ) | refine Jr.go ?_) | refine sd ?_)
 exact end1 (fzI _)
theorem c95 (p : Tim) (r : Drl) (H : Hp) : Ret Try.prog 95 [drV r, .cptr (tiV p)] H (B p.ac) H := by
 refine mk95 _ _ rfl (Nat.le_refl _) (.inl rfl) ?_
 simp only [vc95, real]
 repeat (first | (with_reducible first | refine Ju.go ?_ | (refine Hd.go ?_; intro K Q hK hQ; simp only [nod_agg, List.map_cons, nodL_imm, List.map_nil, e_bxI, okE_agg, lv_cons, List.length_nil, Nat.zero_add, Nat.reduceAdd, all_c, ck_I, all_n, Bool.and_self, and_true, true_and, nod_cptr, e_fac, Nat.reduceLeDiff, List.getD_cons_succ, List.getD_cons_zero, e_ldc]; subst hK hQ) | refine Jr.go ?_) | refine sd ?_)
 exact end1 (fzI _)
theorem c96 (p : Tim) (r : Drl) (H : Hp) : Ret Try.prog 96 [drV r, .cptr (tiV p)] H (B (decide (r.b ≤ p.fi) && !decide (p.fi = 0))) H := by
 refine mk96 _ _ rfl (Nat.le_refl _) (.inl rfl) ?_
 simp only [vc96, real]
 repeat (first | (with_reducible first | refine Ju.go ?_ | (refine Hd.go ?_; intro K Q hK hQ; simp only [nod_agg, List.map_cons, nodL_imm, List.map_nil, e_bxI, okE_agg, lv_cons, List.length_nil, Nat.zero_add, Nat.reduceAdd, all_c, ck_I, all_n, Bool.and_self, and_true, true_and, nod_cptr, e_fac, Nat.reduceLeDiff, List.getD_cons_succ, List.getD_cons_zero, e_ldc, nod_imm, Try.underlying3, e_geq, e_neq, e_gT, j_and', j_one]; subst hK hQ) | refine Jr.go ?_) | refine sd ?_)
 exact end1 (fzI _)
theorem c97 (p : Tim) (r : Drl) (H : Hp) : Ret Try.prog 97 [drV r, .cptr (tiV p)] H (B (decide (r.b ≤ p.cl))) H := by
 refine mk97 _ _ rfl (Nat.le_refl _) (.inl rfl) ?_
 simp only [vc97, real]
 repeat (first | (with_reducible first | refine Ju.go ?_ | (refine Hd.go ?_; intro K Q hK hQ; simp only [nod_agg, List.map_cons, nodL_imm, List.map_nil, e_bxI, okE_agg, lv_cons, List.length_nil, Nat.zero_add, Nat.reduceAdd, all_c, ck_I, all_n, Bool.and_self, and_true, true_and, nod_cptr, e_fac, Nat.reduceLeDiff, List.getD_cons_succ, List.getD_cons_zero, e_ldc, nod_imm, Try.underlying3, e_geq]; subst hK hQ) | refine Jr.go ?_) | refine sd ?_)
 exact end1 (fzI _)
theorem cCond (p : Tim) (r : Drl) (H : Hp) (hp : okTi p = true) (hk : inB r.k 1 5 = true) : Ret Try.prog (92 + r.k.toNat) [drV r, .cptr (tiV p)] H (B (hldP p r)) H := by
 rw [inB_iff] at hk
 have hf : 0 ≤ p.fi := by
  unfold okTi at hp
  simp only [Bool.and_eq_true, inB_iff] at hp
  omega
 have hk5 : r.k = 1 ∨ r.k = 2 ∨ r.k = 3 ∨ r.k = 4 ∨ r.k = 5 := by omega
 unfold hldP
 rcases hk5 with h | h | h | h | h <;> rw [h]
 ·exact c93 p r H
 ·exact c94 p r H
 ·exact c95 p r H
 ·have e : (if (4 : Int) = 1 then p.st else if (4 : Int) = 2 then !p.st else if (4 : Int) = 3 then p.ac else if (4 : Int) = 4 then decide (0 < p.fi) && decide (r.b ≤ p.fi) else decide (r.b ≤ p.cl)) = (decide (r.b ≤ p.fi) && !decide (p.fi = 0)) := by
   simp only [show ¬ (4 : Int) = 1 by decide, show ¬ (4 : Int) = 2 by decide, show ¬ (4 : Int) = 3 by decide, if_false, if_true]
   rw [Bool.and_comm]
   congr 1
   rw [← decide_not, decide_eq_decide]
   omega
  rw [e]
  exact c96 p r H
 ·exact c97 p r H
abbrev conV (p : Tim) : List V := [.imm .nilFunc, .fn 93 [.cptr (tiV p)], .fn 94 [.cptr (tiV p)], .fn 95 [.cptr (tiV p)], .fn 96 [.cptr (tiV p)], .fn 97 [.cptr (tiV p)]]
theorem ix_con (p : Tim) (f : Fl) {k : Int} (h : inB k 1 5 = true) {K : V → Prop} : aIx 1 (.arr (conV p) f) (I k) K = K (.cptr (.fn (92 + k.toNat) [.cptr (tiV p)])) := by
 rw [inB_iff] at h
 have hk5 : k = 1 ∨ k = 2 ∨ k = 3 ∨ k = 4 ∨ k = 5 := by omega
 rcases hk5 with rfl | rfl | rfl | rfl | rfl <;> exact propext ⟨fun h => h.2.2.2, fun h => ⟨by decide, (by show (_ : Int) < ((6 : Nat) : Int); decide), rfl, h⟩⟩
theorem bel_ti (n : Nat) (p : Tim) : Bel n (.cptr (tiV p)) := .cptr _ (.agg _ fun c hc => by
 simp only [List.mem_cons, List.not_mem_nil, or_false] at hc
 rcases hc with rfl | rfl | rfl | rfl | rfl | rfl <;> exact .imm _)
theorem bel_con (n : Nat) (p : Tim) (f : Fl) : Bel n (.arr (conV p) f) := .arr _ _ fun c hc => by
 have b : ∀ g : Nat, Bel n (.fn g [.cptr (tiV p)]) := fun g => .fn _ _ fun c hc => by
  simp only [List.mem_cons, List.not_mem_nil, or_false] at hc
  subst hc; exact bel_ti n p
 simp only [conV, List.mem_cons, List.not_mem_nil, or_false] at hc
 rcases hc with rfl | rfl | rfl | rfl | rfl | rfl
 ·exact .imm _
 all_goals exact b _
theorem okE_fn (f : Nat) (c : List V) : okE 1 (.fn f c) = True := eq_true ⟨rfl, fun x hx => by simp only [V.cl, List.mem_singleton] at hx; subst hx; rfl⟩
theorem bs_con (a b c d e : V) (p : Tim) (K : V → Prop) (ha : a = .fn 93 [.cptr (tiV p)]) (hb : b = .fn 94 [.cptr (tiV p)]) (hc : c = .fn 95 [.cptr (tiV p)]) (hd : d = .fn 96 [.cptr (tiV p)]) (he : e = .fn 97 [.cptr (tiV p)]) (k : K (.arr (conV p) .full)) :
    aBS 1 6 (.imm .nilFunc) [(1, a), (2, b), (3, c), (4, d), (5, e)] K := by
  subst ha hb hc hd he
  simp only [aBS, aPs, setP, okE_fn, and_true]
  exact ⟨⟨by decide, by decide, by decide, by decide, by decide⟩, k⟩
theorem c66 (p : Tim) (H : Hp) : Ret Try.prog 66 [tiV p] H (.arr (conV p) .no) H := by
 refine mk66 _ rfl (Nat.le_refl _) (.inl rfl) ?_
 simp only [vc66, real]
 repeat (first | (with_reducible first | refine Ju.go ?_ | (refine Hd.go ?_; intro K Q hK hQ; simp only [nod_agg, List.map_cons, nodL_imm, List.map_nil, e_bxI, okE_agg, lv_cons, List.length_nil, Nat.zero_add, Nat.reduceAdd, all_c, ck_I, ck_B, all_n, Bool.and_self, and_true, true_and, nod_cptr]; subst hK hQ) | refine Jr.go ?_) | refine sd ?_)
 refine bs_con _ _ _ _ _ p _ rfl rfl rfl rfl rfl ?_
 repeat (first | (with_reducible first | refine Ju.go ?_ | (refine Hd.go ?_; intro K Q hK hQ; simp only []; subst hK hQ) | refine Jr.go ?_) | refine sd ?_)
 exact end1 (.full _ (bel_con _ _ _))
theorem okDr_p {r : Drl} (h : okDr r = true) : 1 ≤ r.p ∧ r.p ≤ 1000 ∧ inB r.k 1 5 = true := by
 unfold okDr at h
 simp only [Bool.and_eq_true] at h
 have := inB_iff.1 h.2
 exact ⟨by omega, by omega, h.1.1⟩
theorem okTi_p {p : Tim} (h : okTi p = true) : 1 ≤ p.le ∧ p.le ≤ p.us ∧ p.us ≤ 2000 := by
 unfold okTi at h
 simp only [Bool.and_eq_true, inB_iff] at h
 omega
theorem mem_take {α : Type} {l : List α} {n : Nat} {x : α} (h : x ∈ l.take n) : x ∈ l := List.mem_of_mem_take h
theorem c31 (p : Tim) (l : List Drl) (H : Hp) (hl : l.length ≤ 9223372036854775807) : Ret Try.prog 31 [tiV p, .arr (l.map drV) .no] H (if (okTi p && okDs l) = true then .tup [I (durP p l), I 0] else .tup [I 0, I 2]) H := by
 have hnd : (if (okTi p && okDs l) = true then V.tup [I (durP p l), I 0] else .tup [I 0, I 2]).Nd := by split <;> rfl
 refine mk31 _ _ hnd (Nat.le_refl _) (.inl rfl) ?_
 simp only [vc31, real]
 repeat (first | (with_reducible first | refine Ju.go ?_ | (refine Hd.go ?_; intro K Q hK hQ; simp only [nod_agg, List.map_cons, nodL_imm, List.map_nil, e_bxI, okE_agg, lv_cons, List.length_nil, Nat.zero_add, Nat.reduceAdd, all_c, ck_I, ck_B, all_n, Bool.and_self, and_true, true_and, nod_cptr, e_fac, Nat.reduceLeDiff, List.getD_cons_succ, List.getD_cons_zero, e_ldc, nod_imm]; subst hK hQ) | refine Jr.go ?_) | refine sd ?_)
 refine call_of (c55 _ _ _ _) ?_
 repeat (first | (with_reducible first | refine Ju.go ?_ | (refine Hd.go ?_; intro K Q hK hQ; simp only [nod_imm, e_not, nod_cptr, e_fac, Nat.reduceAdd, lv_cons, List.length_nil, Nat.zero_add, Nat.reduceLeDiff, List.getD_cons_succ, List.getD_cons_zero, e_ldc, true_and, e_gF]; subst hK hQ) | refine Jr.go ?_) | refine sd ?_)
 refine jo_n (c55 _ _ _ _) ?_
 repeat (first | (with_reducible first | refine Ju.go ?_ | (refine Hd.go ?_; intro K Q hK hQ; simp only [nod_imm, nod_cptr, e_fac, Nat.reduceAdd, lv_cons, List.length_nil, Nat.zero_add, Nat.reduceLeDiff, List.getD_cons_succ, List.getD_cons_zero, e_ldc, true_and, e_gF]; subst hK hQ) | refine Jr.go ?_) | refine sd ?_)
 refine jo_n (c55 _ _ _ _) ?_
 repeat (first | (with_reducible first | refine Ju.go ?_ | (refine Hd.go ?_; intro K Q hK hQ; simp only [nod_imm, nod_cptr, e_fac, Nat.reduceAdd, lv_cons, List.length_nil, Nat.zero_add, Nat.reduceLeDiff, List.getD_cons_succ, List.getD_cons_zero, e_ldc, true_and, e_gF]; subst hK hQ) | refine Jr.go ?_) | refine sd ?_)
 refine jo_n (c55 _ _ _ _) ?_
 repeat (first | (with_reducible first | refine Ju.go ?_ | (refine Hd.go ?_; intro K Q hK hQ; simp only [nod_imm, nod_arr, nd_no, Try.underlying3, e_lenA, List.length_map, e_gtr, e_gF, j_or', j_one, List.getD_cons_succ, List.getD_cons_zero, e_cond]; subst hK hQ) | refine Jr.go ?_) | refine sd ?_)
 have e1 : (!inB p.le 1 2000 || !inB p.us p.le 2000 || !inB p.fi 0 2 || !inB p.cl 0 9 || decide (40 < (l.length : Int))) = !(okTi p && decide (l.length ≤ 40)) := by
  unfold okTi
  have a1 : decide (40 < (l.length : Int)) = !decide (l.length ≤ 40) := by rw [← decide_not, decide_eq_decide]; omega
  rw [a1]
  simp only [Bool.not_and]
 have eS : (okTi p && okDs l) = (okTi p && decide (l.length ≤ 40) && l.all okDr) := by unfold okDs; rw [Bool.and_assoc]
 rw [eS]
 cases hb : (okTi p && decide (l.length ≤ 40))
 ·rw [hb] at e1
  repeat (first | (with_reducible first | refine Ju.go ?_ | (refine Hd.go ?_; intro K Q hK hQ; simp only [e1, Bool.not_false, if_true]; subst hK hQ) | refine Jr.go ?_) | refine sd ?_)
  exact end2 rfl rfl (fzI _) (fzI _)
 ·rw [hb] at e1
  rw [Bool.and_eq_true, decide_eq_true_eq] at hb
  obtain ⟨hp, hl4⟩ := hb
  have hpp := okTi_p hp
  repeat (first | (with_reducible first | refine Ju.go ?_ | (refine Hd.go ?_; intro K Q hK hQ; simp only [e1, Bool.not_true, Bool.false_eq_true, if_false, List.getD_cons_zero, nod_arr, nd_no, e_lenA, List.length_map]; subst hK hQ) | refine Jr.go ?_) | refine sd ?_)
  rw [Bool.true_and]
  refine loop_of (fun i : Nat => i ≤ l.length ∧ (l.take i).all okDr = true) (fun i => [.arr (l.map drV) .no, .cptr (tiV p), .arr (l.map drV) .no, I l.length, I i]) (fun _ => H) (fun i => l.length - i) 0 ⟨Nat.zero_le _, rfl⟩ rfl rfl ?_
  intro i ⟨hi, ha⟩
  repeat (first | (with_reducible first | refine Ju.go ?_ | (refine Hd.go ?_; intro K Q hK hQ; simp only [List.getD_cons_succ, List.getD_cons_zero, nod_imm, Try.underlying3, e_lss, e_cond, decide_eq_true_eq]; subst hK hQ) | refine Jr.go ?_) | refine sd ?_)
  by_cases hlt : i < l.length
  ·have d : (i : Int) < l.length := by omega
   repeat (first | (with_reducible first | refine Ju.go ?_ | (refine Hd.go ?_; intro K Q hK hQ; simp only [d, if_true, List.getD_cons_succ, List.getD_cons_zero, nod_arr, nd_no, nod_imm, ix_dr, Int.toNat_natCast, true_and, nod_cptr, e_ldcA, lv_cons, List.length_nil, Nat.zero_add, Nat.reduceAdd, nod_agg, List.map_cons, nodL_imm, List.map_nil, e_bxI, okE_agg, all_c, ck_I, all_n, Bool.and_self, and_true, e_fac, Nat.reduceLeDiff, e_ldc, e_lss, e_gtr, e_gF, j_or', j_one]; subst hK hQ) | refine Jr.go ?_) | refine sd ?_)
   refine jo_n (c55 _ _ _ _) ?_
   repeat (first | (with_reducible first | refine Ju.go ?_ | (refine Hd.go ?_; intro K Q hK hQ; simp only [nod_imm, nod_cptr, e_fac, Nat.reduceAdd, lv_cons, List.length_nil, Nat.zero_add, Nat.reduceLeDiff, List.getD_cons_succ, List.getD_cons_zero, e_ldc, true_and, e_gF]; subst hK hQ) | refine Jr.go ?_) | refine sd ?_)
   refine jo_n (c55 _ _ _ _) ?_
   have e2 : (decide ((l.getD i default).k < 1) || decide (5 < (l.getD i default).k) || !inB (l.getD i default).b 0 9 || !inB (l.getD i default).p 1 1000) = !okDr (l.getD i default) := by
    have a1 : (decide ((l.getD i default).k < 1) || decide (5 < (l.getD i default).k)) = !inB (l.getD i default).k 1 5 := by
     unfold inB
     rw [Bool.not_and, ← decide_not, ← decide_not]
     simp only [Int.not_le]
    rw [a1]
    unfold okDr
    simp only [Bool.not_and]
   rw [e2]
   cases hr : okDr (l.getD i default)
   ·rw [all_bad l default okDr hlt hr]
    repeat (first | (with_reducible first | refine Ju.go ?_ | (refine Hd.go ?_; intro K Q hK hQ; simp only [Bool.not_false, List.getD_cons_zero, List.getD_cons_succ, nod_imm, e_cond, if_true]; subst hK hQ) | refine Jr.go ?_) | refine sd ?_)
    exact end2 rfl rfl (fzI _) (fzI _)
   ·repeat (first | (with_reducible first | refine Ju.go ?_ | (refine Hd.go ?_; intro K Q hK hQ; simp only [Bool.not_true, List.getD_cons_zero, List.getD_cons_succ, nod_imm, e_cond, Bool.false_eq_true, if_false, Try.underlying3, e_add]; subst hK hQ) | refine Jr.go ?_) | refine sd ?_)
    exact ⟨i + 1, ⟨by omega, by rw [all_take l default okDr hlt, ha, hr]; rfl⟩, rfl, rfl, by omega⟩
  ·have d : ¬ (i : Int) < l.length := by omega
   rw [List.take_of_length_le (by omega)] at ha
   have hall : ∀ r, r ∈ l → okDr r = true := List.all_eq_true.1 ha
   rw [ha]
   repeat (first | (with_reducible first | refine Ju.go ?_ | (refine Hd.go ?_; intro K Q hK hQ; simp only [d, if_false, List.getD_cons_zero, nod_arr, nd_no, e_lenA, List.length_map]; subst hK hQ) | refine Jr.go ?_) | refine sd ?_)
   clear d
   refine loop_of (fun j : Nat => j ≤ l.length) (fun j => [.cptr (tiV p), I (pcA p (l.take j)), .arr (l.map drV) .no, I l.length, I j]) (fun _ => H) (fun j => l.length - j) 0 (Nat.zero_le _) rfl rfl ?_
   intro j hj
   have hra := pcA_rng p (l.take j) fun r hr => by have := okDr_p (hall r (mem_take hr)); omega
   repeat (first | (with_reducible first | refine Ju.go ?_ | (refine Hd.go ?_; intro K Q hK hQ; simp only [List.getD_cons_succ, List.getD_cons_zero, nod_imm, Try.underlying3, e_lss, e_cond, decide_eq_true_eq]; subst hK hQ) | refine Jr.go ?_) | refine sd ?_)
   by_cases hjl : j < l.length
   ·have d : (j : Int) < l.length := by omega
    have hr := okDr_p (hall _ (getD_memA l default hjl))
    have hs : pcA p (l.take (j + 1)) = if hldP p (l.getD j default) = true then min 10000 (pc1 (pcA p (l.take j)) (l.getD j default).p) else pcA p (l.take j) := by rw [take_snocA l default hjl, pcA_snoc]
    repeat (first | (with_reducible first | refine Ju.go ?_ | (refine Hd.go ?_; intro K Q hK hQ; simp only [d, if_true, List.getD_cons_succ, List.getD_cons_zero, nod_arr, nd_no, nod_imm, ix_dr, Int.toNat_natCast, true_and, nod_cptr, e_ldcA, lv_cons, List.length_nil, Nat.zero_add, Nat.reduceAdd, nod_agg, List.map_cons, nodL_imm, List.map_nil, e_bxI, okE_agg, all_c, ck_I, all_n, Bool.and_self, and_true]; subst hK hQ) | refine Jr.go ?_) | refine sd ?_)
    refine calm_of (fun H => c66 p H) ?_
    repeat (first | (with_reducible first | refine Ju.go ?_ | (refine Hd.go ?_; intro K Q hK hQ; simp only [nod_cptr, e_fac, Nat.zero_add, lv_cons, List.length_nil, Nat.reduceAdd, Nat.reduceLeDiff, List.getD_cons_zero, true_and, e_ldc, nod_arr, nd_no, nod_imm, ix_con p .no hr.2.2, e_ldcF, e_ldcA, nod_fn, nod_agg, List.map_cons, nodL_imm, List.map_nil, e_callG]; subst hK hQ) | refine Jr.go ?_) | refine sd ?_)
    refine call_ofD (cCond p _ _ hp hr.2.2) ?_
    cases hh : hldP p (l.getD j default)
    ·rw [hh] at hs
     repeat (first | (with_reducible first | refine Ju.go ?_ | (refine Hd.go ?_; intro K Q hK hQ; simp only [List.getD_cons_zero, List.getD_cons_succ, nod_imm, e_cond, Bool.false_eq_true, if_false, Try.underlying3, e_add]; subst hK hQ) | refine Jr.go ?_) | refine sd ?_)
     exact ⟨j + 1, by omega, by rw [hs]; rfl, rfl, by omega⟩
    ·rw [hh, if_pos rfl] at hs
     repeat (first | (with_reducible first | refine Ju.go ?_ | (refine Hd.go ?_; intro K Q hK hQ; simp only [List.getD_cons_zero, List.getD_cons_succ, nod_imm, e_cond, if_true, nod_cptr, e_fac, Nat.reduceAdd, lv_cons, List.length_nil, Nat.zero_add, Nat.reduceLeDiff, true_and, e_ldc]; subst hK hQ) | refine Jr.go ?_) | refine sd ?_)
     refine call_of (c67 _ _ _ hra.1 hra.2 (by omega) (by omega)) ?_
     repeat (first | (with_reducible first | refine Ju.go ?_ | (refine Hd.go ?_; intro K Q hK hQ; simp only [nod_imm, e_min2, List.getD_cons_succ, List.getD_cons_zero, Try.underlying3, e_add]; subst hK hQ) | refine Jr.go ?_) | refine sd ?_)
     exact ⟨j + 1, by omega, by rw [hs, Int.min_comm]; rfl, rfl, by omega⟩
   ·have d : ¬ (j : Int) < l.length := by omega
    rw [List.take_of_length_le (by omega)] at hra ⊢
    have r1 : R64 (p.us - p.le) := by unfold R64; omega
    repeat (first | (with_reducible first | refine Ju.go ?_ | (refine Hd.go ?_; intro K Q hK hQ; simp only [d, if_false, List.getD_cons_zero, nod_cptr, e_fac, Nat.reduceAdd, lv_cons, List.length_nil, Nat.zero_add, Nat.reduceLeDiff, List.getD_cons_succ, true_and, e_ldc, nod_imm, Try.underlying3, e_sub, r1]; subst hK hQ) | refine Jr.go ?_) | refine sd ?_)
    refine calm_of (fun H => c67 (p.us - p.le) (pcA p l) H (by omega) (by omega) hra.1 hra.2) ?_
    have hb := mul_bd (a := p.us - p.le) (b := pcA p l) (by omega) (show _ ≤ (2000 : Int) by omega) hra.1 hra.2
    have r2 : R64 (p.le + pc1 (p.us - p.le) (pcA p l)) := by unfold R64 pc1; omega
    repeat (first | (with_reducible first | refine Ju.go ?_ | (refine Hd.go ?_; intro K Q hK hQ; simp only [nod_imm, Try.underlying3, e_add, r2, true_and]; subst hK hQ) | refine Jr.go ?_) | refine sd ?_)
    exact end2 rfl rfl (fzI _) (fzI _)
structure El where
 c : Int
 i : Int
deriving Inhabited, DecidableEq
def elLt (a b : El) : Bool := bif decide (a.c = b.c) then decide (b.i < a.i) else decide (a.c < b.c)
def eLe (a b : El) : Prop := elLt b a = false
theorem elLt_iff {a b : El} : elLt a b = true ↔ a.c < b.c ∨ (a.c = b.c ∧ b.i < a.i) := by
 unfold elLt
 by_cases h : a.c = b.c
 ·simp [h]
 ·simp [h]
theorem eLe_iff {a b : El} : eLe a b ↔ a.c < b.c ∨ (a.c = b.c ∧ b.i ≤ a.i) := by
 unfold eLe
 rw [← Bool.not_eq_true, elLt_iff]
 omega
theorem eLe.trans {a b c : El} (h : eLe a b) (k : eLe b c) : eLe a c := by
 rw [eLe_iff] at *
 omega
theorem eLe.of_lt {a b : El} (h : elLt a b = true) : eLe a b := by
 rw [elLt_iff] at h
 rw [eLe_iff]
 omega
abbrev gt (l : List El) (k : Nat) : El := l.getD k default
def swp (l : List El) (i j : Nat) : List El := (l.set i (gt l j)).set j (gt l i)
theorem swp_len (l : List El) (i j : Nat) : (swp l i j).length = l.length := by unfold swp; simp
theorem swp_get (l : List El) {i j : Nat} (hi : i < l.length) (hj : j < l.length) (k : Nat) : gt (swp l i j) k = if k = j then gt l i else if k = i then gt l j else gt l k := by
 unfold swp gt
 simp only [List.getD_eq_getElem?_getD, List.getElem?_set, List.length_set]
 by_cases h1 : j = k
 ·subst h1
  rw [if_pos rfl, if_pos hj, if_pos rfl]; rfl
 ·rw [if_neg h1, if_neg (Ne.symm h1)]
  by_cases h2 : i = k
  ·subst h2
   rw [if_pos rfl, if_pos hi, if_pos rfl]; rfl
  ·rw [if_neg h2, if_neg (Ne.symm h2)]
theorem swp_perm (l : List El) {i j : Nat} (hi : i < l.length) (hj : j < l.length) : (swp l i j).Perm l := by
 have e1 : gt l j = l[j] := by unfold gt; rw [List.getD_eq_getElem?_getD, List.getElem?_eq_getElem hj]; rfl
 have e2 : gt l i = l[i] := by unfold gt; rw [List.getD_eq_getElem?_getD, List.getElem?_eq_getElem hi]; rfl
 unfold swp
 rw [e1, e2]
 exact List.set_set_perm hi hj
def upP : Nat → List El → Nat → List El
 | 0, l, _ => l
 | f + 1, l, j => if (j - 1) / 2 = j ∨ elLt (gt l j) (gt l ((j - 1) / 2)) = false then l else upP f (swp l ((j - 1) / 2) j) ((j - 1) / 2)
def dnJ (l : List El) (i : Nat) : Nat := if 2 * i + 2 < l.length ∧ elLt (gt l (2 * i + 2)) (gt l (2 * i + 1)) = true then 2 * i + 2 else 2 * i + 1
def dnP : Nat → List El → Nat → List El × Nat
 | 0, l, i => (l, i)
 | f + 1, l, i => if l.length ≤ 2 * i + 1 then (l, i) else if elLt (gt l (dnJ l i)) (gt l i) = false then (l, i) else dnP f (swp l i (dnJ l i)) (dnJ l i)
theorem upP_len : ∀ (f : Nat) (l : List El) (j : Nat), (upP f l j).length = l.length
 | 0, _, _ => rfl
 | f + 1, l, j => by
  unfold upP
  split
  ·rfl
  ·rw [upP_len f, swp_len]
theorem dnP_len : ∀ (f : Nat) (l : List El) (i : Nat), (dnP f l i).1.length = l.length
 | 0, _, _ => rfl
 | f + 1, l, i => by
  unfold dnP
  split
  ·rfl
  ·split
   ·rfl
   ·rw [dnP_len f, swp_len]
theorem upP_perm : ∀ (f : Nat) (l : List El) (j : Nat), j < l.length → (upP f l j).Perm l
 | 0, _, _, _ => .refl _
 | f + 1, l, j, h => by
  unfold upP
  split
  ·exact .refl _
  ·exact (upP_perm f _ _ (by rw [swp_len]; omega)).trans (swp_perm l (by omega) h)
theorem dnJ_lt {l : List El} {i : Nat} (h : ¬ l.length ≤ 2 * i + 1) : dnJ l i < l.length := by
 unfold dnJ; split <;> omega
theorem dnP_perm : ∀ (f : Nat) (l : List El) (i : Nat), i < l.length → (dnP f l i).1.Perm l
 | 0, _, _, _ => .refl _
 | f + 1, l, i, h => by
  unfold dnP
  split
  ·exact .refl _
  ·rename_i h1
   split
   ·exact .refl _
   ·exact (dnP_perm f _ _ (by rw [swp_len]; exact dnJ_lt h1)).trans (swp_perm l h (dnJ_lt h1))
def HpO (l : List El) : Prop := ∀ k, 0 < k → k < l.length → eLe (gt l ((k - 1) / 2)) (gt l k)
theorem up_heap : ∀ (f : Nat) (l : List El) (j : Nat), j < l.length → j ≤ f → (∀ k, 0 < k → k < l.length → k ≠ j → eLe (gt l ((k - 1) / 2)) (gt l k)) →
    (∀ k, 0 < k → k < l.length → (k - 1) / 2 = j → 0 < j → eLe (gt l ((j - 1) / 2)) (gt l k)) → HpO (upP f l j)
  | 0, l, j, hj, hf, h1, h2 => fun k k0 kl => h1 k k0 kl (by omega)
  | f + 1, l, j, hj, hf, h1, h2 => by
    unfold upP
    by_cases hp : (j - 1) / 2 = j
    · rw [if_pos (.inl hp)]
      exact fun k k0 kl => h1 k k0 kl (by omega)
    · cases he : elLt (gt l j) (gt l ((j - 1) / 2))
      · rw [if_pos (.inr rfl)]
        intro k k0 kl
        by_cases hk : k = j
        · subst hk; exact he
        · exact h1 k k0 kl hk
      · rw [if_neg (by rintro (h | h); exact hp h; cases h)]
        have hj0 : 0 < j := by omega
        have hi : (j - 1) / 2 < j := by omega
        have hil : (j - 1) / 2 < l.length := by omega
        refine up_heap f _ _ (by rw [swp_len]; exact hil) (by omega) (fun k k0 kl hk => ?_) (fun k k0 kl hpk hi0 => ?_)
        · rw [swp_len] at kl
          rw [swp_get l hil hj, swp_get l hil hj]
          by_cases e1 : k = j
          · subst e1
            rw [if_neg (by omega), if_pos rfl, if_pos rfl]
            exact eLe.of_lt he
          · rw [if_neg e1, if_neg hk]
            by_cases e2 : (k - 1) / 2 = j
            · rw [if_pos e2]
              exact h2 k k0 kl e2 hj0
            · rw [if_neg e2]
              by_cases e3 : (k - 1) / 2 = (j - 1) / 2
              · rw [if_pos e3]
                have := h1 k k0 kl e1
                rw [e3] at this
                exact (eLe.of_lt he).trans this
              · rw [if_neg e3]
                exact h1 k k0 kl e1
        · rw [swp_len] at kl
          rw [swp_get l hil hj, swp_get l hil hj, if_neg (show ((j - 1) / 2 - 1) / 2 ≠ j by omega), if_neg (show ((j - 1) / 2 - 1) / 2 ≠ (j - 1) / 2 by omega)]
          have h3 := h1 ((j - 1) / 2) hi0 hil (by omega)
          by_cases e1 : k = j
          · rw [if_pos e1]; exact h3
          · rw [if_neg e1, if_neg (by omega)]
            have := h1 k k0 kl e1
            rw [hpk] at this
            exact h3.trans this
theorem dn_heap : ∀ (f : Nat) (l : List El) (i : Nat), i < l.length → l.length ≤ f + i → (∀ k, 0 < k → k < l.length → (k - 1) / 2 ≠ i → eLe (gt l ((k - 1) / 2)) (gt l k)) →
    (∀ k, 0 < k → k < l.length → (k - 1) / 2 = i → 0 < i → eLe (gt l ((i - 1) / 2)) (gt l k)) → HpO (dnP f l i).1
  | 0, l, i, hi, hf, h1, h2 => by omega
  | f + 1, l, i, hi, hf, h1, h2 => by
    unfold dnP
    by_cases hc : l.length ≤ 2 * i + 1
    · rw [if_pos hc]
      show HpO l
      exact fun k k0 kl => h1 k k0 kl (by omega)
    · rw [if_neg hc]
      have hj := dnJ_lt hc
      have hJ : dnJ l i = 2 * i + 1 ∨ dnJ l i = 2 * i + 2 := by unfold dnJ; split <;> simp
      have hmin : ∀ k, 0 < k → k < l.length → (k - 1) / 2 = i → eLe (gt l (dnJ l i)) (gt l k) := by
        intro k k0 kl hk
        have hk2 : k = 2 * i + 1 ∨ k = 2 * i + 2 := by omega
        unfold dnJ
        by_cases hb : 2 * i + 2 < l.length ∧ elLt (gt l (2 * i + 2)) (gt l (2 * i + 1)) = true
        · rw [if_pos hb]
          rcases hk2 with rfl | rfl
          · exact eLe.of_lt hb.2
          · rw [eLe_iff]; omega
        · rw [if_neg hb]
          rcases hk2 with rfl | rfl
          · rw [eLe_iff]; omega
          · cases he : elLt (gt l (2 * i + 2)) (gt l (2 * i + 1))
            · exact he
            · exact absurd ⟨kl, he⟩ hb
      generalize dnJ l i = j at *
      have hpj : (j - 1) / 2 = i := by omega
      cases he : elLt (gt l j) (gt l i)
      · rw [if_pos rfl]
        intro k k0 kl
        by_cases hk : (k - 1) / 2 = i
        · rw [hk]; exact eLe.trans he (hmin k k0 kl hk)
        · exact h1 k k0 kl hk
      · rw [if_neg (by decide)]
        refine dn_heap f _ _ (by rw [swp_len]; exact hj) (by rw [swp_len]; omega) (fun k k0 kl hk => ?_) (fun k k0 kl hpk hj0 => ?_)
        · rw [swp_len] at kl
          rw [swp_get l hi hj, swp_get l hi hj, if_neg hk]
          by_cases e1 : k = j
          · rw [if_pos e1, if_pos (by omega)]
            exact eLe.of_lt he
          · rw [if_neg e1]
            by_cases e2 : k = i
            · subst e2
              rw [if_pos rfl, if_neg (by omega)]
              exact h2 j (by omega) hj hpj (by omega)
            · rw [if_neg e2]
              by_cases e3 : (k - 1) / 2 = i
              · rw [if_pos e3]; exact hmin k k0 kl e3
              · rw [if_neg e3]; exact h1 k k0 kl e3
        · rw [swp_len] at kl
          rw [swp_get l hi hj, swp_get l hi hj, if_neg (show (j - 1) / 2 ≠ j by omega), if_pos hpj, if_neg (by omega), if_neg (by omega)]
          have := h1 k k0 kl (by omega)
          rw [hpk] at this
          exact this
theorem HpO.min {l : List El} (h : HpO l) : ∀ (f k : Nat), k ≤ f → k < l.length → eLe (gt l 0) (gt l k)
 | 0, k, hf, hk => by
  obtain rfl : k = 0 := by omega
  rw [eLe_iff]; omega
 | f + 1, k, hf, hk => by
  by_cases k0 : k = 0
  ·subst k0; rw [eLe_iff]; omega
  ·exact (HpO.min h f ((k - 1) / 2) (by omega) (by omega)).trans (h k (by omega) hk)
theorem HpO.push {l : List El} (h : HpO l) (x : El) : HpO (upP (l.length) (l ++ [x]) l.length) := by
 have hl : (l ++ [x]).length = l.length + 1 := by simp
 have hg : ∀ k, k < l.length → gt (l ++ [x]) k = gt l k := fun k hk => by
  unfold gt
  rw [List.getD_eq_getElem?_getD, List.getElem?_append_left hk, List.getD_eq_getElem?_getD]
 refine up_heap _ _ _ (by omega) (Nat.le_refl _) (fun k k0 kl hk => ?_) (fun k k0 kl hpk j0 => by omega)
 rw [hg _ (by omega), hg _ (by omega)]
 exact h k k0 (by omega)
theorem HpO.fix {l : List El} (h : HpO l) (x : El) (h0 : 0 < l.length) : HpO (dnP l.length (l.set 0 x) 0).1 := by
 have hg : ∀ k, 0 < k → gt (l.set 0 x) k = gt l k := fun k hk => by
  unfold gt
  rw [List.getD_eq_getElem?_getD, List.getElem?_set_ne (by omega), List.getD_eq_getElem?_getD]
 refine dn_heap _ _ _ (by rw [List.length_set]; exact h0) (by rw [List.length_set]; omega) (fun k k0 kl hk => ?_) (fun k k0 kl hpk j0 => by omega)
 rw [List.length_set] at kl
 rw [hg _ (by omega), hg _ k0]
 exact h k k0 kl
def Fr (H H' : Hp) (S : Nat → Prop) : Prop := H.length ≤ H'.length ∧ ∀ c, c < H.length → ¬ S c → H'[c]? = H[c]?
theorem Fr.trans {H H1 H2 : Hp} {S : Nat → Prop} (h : Fr H H1 S) (k : Fr H1 H2 S) : Fr H H2 S := ⟨Nat.le_trans h.1 k.1, fun c hc hs => (k.2 c (Nat.lt_of_lt_of_le hc h.1) hs).trans (h.2 c hc hs)⟩
theorem Fr.mono {H H' : Hp} {S T : Nat → Prop} (h : Fr H H' S) (k : ∀ c, c < H.length → S c → T c) : Fr H H' T := ⟨h.1, fun c hc ht => h.2 c hc fun hs => ht (k c hc hs)⟩
theorem Fr.set (H : Hp) (b : Nat) (x : Blk) {S : Nat → Prop} (h : S b) : Fr H (H.set b x) S := ⟨by simp, fun c hc hs => List.getElem?_set_ne (fun e => by subst e; exact hs h)⟩
theorem get_app {α : Type} {H L : List α} {k : Nat} {x : α} (h : H[k]? = some x) : (H ++ L)[k]? = some x := by
 rw [List.getElem?_append_left (List.getElem?_eq_some_iff.1 h).1]; exact h
theorem get_lt {α : Type} {H : List α} {k : Nat} {x : α} (h : H[k]? = some x) : k < H.length := (List.getElem?_eq_some_iff.1 h).1
theorem get_ne {α : Type} {H : List α} {k b : Nat} {x : α} (h : b ≠ k) : (H.set b x)[k]? = H[k]? := List.getElem?_set_ne h
def blV (s b n : Nat) : V := if n = 0 then .arr [] .full else .sl b 0 n n s
theorem blV_nod (s b n : Nat) : (blV s b n).nod = blV s b n := by unfold blV; split <;> rfl
theorem blV_nodL (s b n : Nat) : (blV s b n).nodL = blV s b n := by unfold blV; split <;> rfl
theorem blV_len (s b n : Nat) (K : V → Prop) : aLen (blV s b n) K = K (I n) := by
 unfold blV; split
 ·rename_i h; subst h; rfl
 ·rfl
theorem blV_ne (s b : Nat) {n : Nat} (h : n ≠ 0) : blV s b n = .sl b 0 n n s := if_neg h
theorem blV_ok (s b n : Nat) : okE 1 (blV s b n) = True := by
 unfold blV; split
 ·exact eq_true ⟨rfl, fun c hc => by simp only [V.cl, List.mem_singleton] at hc; subst hc; rfl⟩
 ·exact eq_true ⟨rfl, fun c hc => by simp only [V.cl, List.mem_singleton] at hc; subst hc; rfl⟩
theorem blV_st (s b n : Nat) : stV (blV s b n) = blV s b n := by unfold blV; split <;> rfl
theorem blV_cl (s b n : Nat) : (blV s b n).cl = [blV s b n] := by unfold blV; split <;> rfl
def killB (H : Hp) (b n : Nat) : Hp := if n = 0 then H else H.set b .dead
theorem killB_len (H : Hp) (b n : Nat) : (killB H b n).length = H.length := by unfold killB; split <;> simp
theorem killB_ne (H : Hp) (b n : Nat) {c : Nat} (h : n ≠ 0 → b ≠ c) : (killB H b n)[c]? = H[c]? := by
 unfold killB; split
 ·rfl
 ·rename_i hn; exact get_ne (h hn)
theorem app_bl {s bytes b n : Nat} {ys cs : List V} {f : Fl} {H : Hp} {KH : V → Hp → Prop} (h0 : n = 0 → cs = []) (h : n ≠ 0 → H[b]? = some (.cells cs)) (hc : cs.length = n * s) (hn : ∀ c, c ∈ cs → c.Nd)
    (hy : ∀ e, e ∈ ys → e.cl.length = s ∧ ∀ c, c ∈ e.cl → cellOk c = true) (hb : (n + ys.length) * bytes ≤ 140737488355328)
    (k0 : n = 0 → ys = [] → KH (.arr [] .full) H) (k : n + ys.length ≠ 0 → KH (blV s H.length (n + ys.length)) (killB H b n ++ [.cells (cs ++ ys.flatMap V.cl)])) : aAppS s bytes (blV s b n) (.arr ys f) H KH := by
  by_cases hn0 : n = 0
  · subst hn0
    rw [h0 rfl] at k
    simp only [Nat.zero_add] at hb k
    refine ⟨hy, hb, ?_⟩
    cases ys with
    | nil => exact k0 rfl rfl
    | cons y ys =>
      have := k (by simp)
      rw [blV_ne s _ (by simp)] at this
      exact this
  · rw [blV_ne s b hn0]
    have k1 := k (by omega)
    rw [blV_ne s _ (by omega)] at k1
    unfold killB at k1
    rw [if_neg hn0] at k1
    refine ⟨Nat.pos_of_ne_zero hn0, rfl, ?_⟩
    show (match H[b]? with | some (.cells cs) => _ | _ => False)
    rw [h hn0]
    have ht : cs.take (n * s) = cs := List.take_of_length_le (by omega)
    refine ⟨by omega, fun c hc' => hn c (List.mem_of_mem_take hc'), hy, hb, ?_⟩
    rw [ht]
    exact k1
theorem app_ints {b n : Nat} {xs ys : List Int} {f : Fl} {H : Hp} {KH : V → Hp → Prop} (hx : xs.length = n) (h : n ≠ 0 → H[b]? = some (.cells (xs.map I))) (hb : n + ys.length ≤ 1000000)
    (k : ∀ G, (∀ c, c < H.length → (n ≠ 0 → b ≠ c) → G[c]? = H[c]?) → (n + ys.length ≠ 0 → G[H.length]? = some (.cells ((xs ++ ys).map I))) → H.length ≤ G.length → KH (blV 1 H.length (n + ys.length)) G) : aAppS 1 8 (blV 1 b n) (ints ys f) H KH := by
  refine app_bl (cs := xs.map I) (fun e => by subst e; rw [List.length_eq_zero_iff.1 hx]; rfl) h (by rw [List.length_map]; omega) (fun c hc => by
    obtain ⟨y, -, rfl⟩ := List.mem_map.1 hc; rfl) (fun e he => by
    obtain ⟨y, -, rfl⟩ := List.mem_map.1 he
    exact ⟨rfl, fun c hc => by simp only [V.cl, List.mem_singleton] at hc; subst hc; rfl⟩) (by rw [List.length_map]; omega) (fun e1 e2 => ?_) (fun e => ?_)
  · have e2' := List.map_eq_nil_iff.1 e2
    have := k H (fun c _ _ => rfl) (fun h => by rw [e2'] at h; simp at h; exact absurd e1 h) (Nat.le_refl _)
    rw [e1, e2'] at this
    exact this
  · rw [List.length_map] at e ⊢
    rw [flat_I, ← List.map_append]
    refine k _ (fun c hc hne => ?_) (fun _ => ?_) (by rw [List.length_append, killB_len]; omega)
    · rw [List.getElem?_append_left (by rw [killB_len]; exact hc), killB_ne _ _ _ hne]
    · rw [List.getElem?_append_right (by rw [killB_len]; exact Nat.le_refl _), killB_len, Nat.sub_self]; rfl
theorem fz_bkS {n : Nat} {H : Hp} {b : Nat} {os : List Int} (hb : os.length ≠ 0 → n ≤ b ∧ H[b]? = some (.cells (os.map I))) : Fz n H (blV 1 b os.length) (ints os .no) := by
 unfold blV; split
 ·rename_i h
  rw [List.length_eq_zero_iff.1 h]
  exact .full [] (.arr _ _ fun c hc => by cases hc)
 ·rename_i h
  obtain ⟨h1, h2⟩ := hb h
  refine .sl b 0 _ _ 1 1 (os.map I) (os.map I) .no h1 h2 (by simp) (by decide) (fun x hx => ?_) (fun e => by cases e) (by simp) (fun j c c' hc hc' => ?_)
  ·obtain ⟨y, -, rfl⟩ := List.mem_map.1 hx
   exact ⟨rfl, rfl⟩
  ·rw [flat_I] at hc'
   rw [Nat.zero_add] at hc
   rw [hc] at hc'
   cases hc'
   obtain ⟨y, -, rfl⟩ := List.mem_map.1 (List.mem_of_getElem? hc)
   exact .keep _ (.imm _)
theorem take_low {G H : Hp} (h : ∀ c, c < H.length → G[c]? = H[c]?) (hl : H.length ≤ G.length) : G.take H.length = H := by
 refine List.ext_getElem? fun c => ?_
 rw [List.getElem?_take]
 by_cases hc : c < H.length
 ·rw [if_pos hc]; exact h c hc
 ·rw [if_neg hc, List.getElem?_eq_none (by omega)]
theorem end2T {H H' : Hp} {a b a' b' : V} (d1 : a'.Nd) (d2 : b'.Nd) (h1 : Fz H.length H' a.nod a') (h2 : Fz H.length H' b.nod b') (ht : H'.take H.length = H) : retF (.tup [a', b']) H [a, b] H' := by
 refine ⟨.tup _ _ rfl (fun c hc => ?_) (fun i c c' h1' h2' => ?_), ht⟩
 ·simp only [List.mem_cons, List.not_mem_nil, or_false] at hc
  rcases hc with rfl | rfl
  ·exact d1
  ·exact d2
 ·match i with
  | 0 => cases h1'; cases h2'; exact h1
  | 1 => cases h1'; cases h2'; exact h2
  | i + 2 => cases h1'
theorem end3T {H H' : Hp} {a b c a' b' c' : V} (d1 : a'.Nd) (d2 : b'.Nd) (d3 : c'.Nd) (h1 : Fz H.length H' a.nod a') (h2 : Fz H.length H' b.nod b') (h3 : Fz H.length H' c.nod c') (ht : H'.take H.length = H) : retF (.tup [a', b', c']) H [a, b, c] H' := by
 refine ⟨.tup _ _ rfl (fun c hc => ?_) (fun i c c' h1' h2' => ?_), ht⟩
 ·simp only [List.mem_cons, List.not_mem_nil, or_false] at hc
  rcases hc with rfl | rfl | rfl
  ·exact d1
  ·exact d2
  ·exact d3
 ·match i with
  | 0 => cases h1'; cases h2'; exact h1
  | 1 => cases h1'; cases h2'; exact h2
  | 2 => cases h1'; cases h2'; exact h3
  | i + 3 => cases h1'
def sw (l : List Int) (i : Nat) : List Int := (List.range l.length).map fun j => if j < i ∨ l.length - i ≤ j then l.getD (l.length - 1 - j) 0 else l.getD j 0
theorem sw_len (l : List Int) (i : Nat) : (sw l i).length = l.length := by simp [sw]
theorem sw_get (l : List Int) (i : Nat) {j : Nat} (h : j < l.length) : (sw l i).getD j 0 = if j < i ∨ l.length - i ≤ j then l.getD (l.length - 1 - j) 0 else l.getD j 0 := by
 unfold sw
 rw [List.getD_eq_getElem?_getD, List.getElem?_map, List.getElem?_range h]; rfl
theorem ext_getD {l m : List Int} (hl : l.length = m.length) (h : ∀ j, j < l.length → l.getD j 0 = m.getD j 0) : l = m := by
 refine List.ext_getElem hl fun j h1 h2 => ?_
 have := h j h1
 rw [List.getD_eq_getElem?_getD, List.getD_eq_getElem?_getD, List.getElem?_eq_getElem h1, List.getElem?_eq_getElem h2] at this
 exact this
theorem getD_set (l : List Int) (k j : Nat) (r : Int) (h : j < l.length) : (l.set k r).getD j 0 = if k = j then r else l.getD j 0 := by
 rw [List.getD_eq_getElem?_getD, List.getD_eq_getElem?_getD, List.getElem?_set]
 by_cases e : k = j
 ·subst e; rw [if_pos rfl, if_pos rfl, if_pos h]; rfl
 ·rw [if_neg e, if_neg e]
theorem sw_0 (l : List Int) : sw l 0 = l := ext_getD (sw_len l 0) fun j h => by
 rw [sw_len] at h
 rw [sw_get l 0 h, if_neg (by omega)]
theorem sw_end (l : List Int) {i : Nat} (h : l.length ≤ 2 * i + 1) : sw l i = l.reverse := ext_getD (by rw [sw_len, List.length_reverse]) fun j hj => by
 rw [sw_len] at hj
 rw [sw_get l i hj]
 have : l.reverse.getD j 0 = l.getD (l.length - 1 - j) 0 := by
  rw [List.getD_eq_getElem?_getD, List.getD_eq_getElem?_getD, List.getElem?_reverse hj]
 rw [this]
 by_cases e : j < i ∨ l.length - i ≤ j
 ·rw [if_pos e]
 ·rw [if_neg e, show l.length - 1 - j = j by omega]
theorem sw_s (l : List Int) {i : Nat} (h : 2 * i + 1 < l.length) : ((sw l i).set i (l.getD (l.length - 1 - i) 0)).set (l.length - 1 - i) (l.getD i 0) = sw l (i + 1) := ext_getD (by simp only [List.length_set, sw_len]) fun j hj => by
 rw [List.length_set, List.length_set, sw_len] at hj
 rw [getD_set _ _ _ _ (by rw [List.length_set, sw_len]; exact hj), getD_set _ _ _ _ (by rw [sw_len]; exact hj), sw_get l i hj, sw_get l (i + 1) hj]
 by_cases e1 : l.length - 1 - i = j
 ·rw [if_pos e1, if_pos (by omega), show l.length - 1 - j = i by omega]
 ·rw [if_neg e1]
  by_cases e2 : i = j
  ·rw [if_pos e2, if_pos (by omega), e2]
  ·rw [if_neg e2]
   by_cases e3 : j < i ∨ l.length - i ≤ j
   ·rw [if_pos e3, if_pos (by omega)]
   ·rw [if_neg e3, if_neg (by omega)]
theorem c57 (l : List Int) (H : Hp) (b : Nat) (hH : H[b]? = some (.cells (l.map I))) (hn : l ≠ []) (hl : l.length ≤ 1000000) : RetE Try.prog 57 [.sl b 0 l.length l.length 1] H (fun _ H' => H' = H.set b (.cells (l.reverse.map I))) := by
 have hb : b < H.length := (List.getElem?_eq_some_iff.1 hH).1
 have hp : 0 < l.length := List.length_pos_iff.2 hn
 refine mkE57 _ ?_
 simp only [vc57, real]
 repeat (first | (with_reducible first | refine Ju.go ?_ | (refine Hd.go ?_; intro K Q hK hQ; simp only [nod_sl, e_lenS, nod_imm, Try.underlying3, e_sub]; subst hK hQ) | refine Jr.go ?_) | refine sd ?_)
 refine loop_of (fun i : Nat => i ≤ l.length ∧ 2 * i ≤ l.length) (fun i => [.sl b 0 l.length l.length 1, I i, I ((l.length : Int) - 1 - i)]) (fun i => H.set b (.cells ((sw l i).map I))) (fun i => l.length - i) 0 ⟨Nat.zero_le _, Nat.zero_le _⟩ (by simp) (by rw [sw_0, ← (List.getElem?_eq_some_iff.1 hH).2, List.set_getElem_self]) ?_
 intro i ⟨hi, hi2⟩
 have hS : ∀ m : List Int, (H.set b (.cells (m.map I)))[b]? = some (.cells (m.map I)) := fun m => by rw [List.getElem?_set_self hb]
 repeat (first | (with_reducible first | refine Ju.go ?_ | (refine Hd.go ?_; intro K Q hK hQ; simp only [List.getD_cons_succ, List.getD_cons_zero, nod_imm, Try.underlying3, e_lss, e_cond, decide_eq_true_eq]; subst hK hQ) | refine Jr.go ?_) | refine sd ?_)
 by_cases hlt : 2 * i + 1 < l.length
 ·have d : (i : Int) < (l.length : Int) - 1 - i := by omega
  have eI : ((l.length : Int) - 1 - i).toNat = l.length - 1 - i := by omega
  have f1 : (sw l i).getD i 0 = l.getD i 0 := by rw [sw_get l i (by omega), if_neg (by omega)]
  have f2 : (sw l i).getD (l.length - 1 - i) 0 = l.getD (l.length - 1 - i) 0 := by rw [sw_get l i (by omega), if_neg (by omega)]
  have g2 := sw_s l hlt
  have h1 : i < l.length := by omega
  have h2 : l.length - 1 - i < l.length := by omega
  repeat (first | (with_reducible first | refine Ju.go ?_ | (refine Hd.go ?_; intro K Q hK hQ; simp only [d, if_true, List.getD_cons_zero, nod_sl, List.getD_cons_succ, nod_imm, e_ixS, eI, Nat.mul_one, Nat.zero_add, nod_ptr, ldI_at (hS _), sw_len, h2, f2, true_and, Int.toNat_natCast, h1, f1, stI_at (hS _), List.set_set, List.length_set, g2, Try.underlying3, e_add, e_sub]; subst hK hQ) | refine Jr.go ?_) | refine sd ?_)
  exact ⟨i + 1, ⟨by omega, by omega⟩, by simp; omega, rfl, by omega⟩
 ·have d : ¬ (i : Int) < (l.length : Int) - 1 - i := by omega
  repeat (first | (with_reducible first | refine Ju.go ?_ | (refine Hd.go ?_; intro K Q hK hQ; simp only [d, if_false]; subst hK hQ) | refine Jr.go ?_) | refine sd ?_)
  rw [sw_end l (by omega)]
  rfl
def cst (d s x : Int) : Int := s * (2 * (x - d) + 1)
def elA (d s x : List Int) (i : Nat) : El := ⟨cst (d.getD i 0) (s.getD i 0) (x.getD i 0), i⟩
def rfS (d s x : List Int) : Nat → Int × Int
 | 0 => (-1, 0)
 | i + 1 => if (rfS d s x i).1 < 0 ∨ (elA d s x i).c ≤ (rfS d s x i).2 then ((i : Int), (elA d s x i).c) else rfS d s x i
theorem rfS_is (d s x : List Int) : ∀ n, 0 < n → ∃ k, k < n ∧ rfS d s x n = ((k : Int), (elA d s x k).c) ∧ ∀ j, j < n → eLe (elA d s x k) (elA d s x j)
 | 0, h => by omega
 | n + 1, _ => by
  by_cases h0 : n = 0
  ·subst h0
   refine ⟨0, by omega, ?_, fun j hj => ?_⟩
   ·exact if_pos (Or.inl (show (-1 : Int) < 0 by decide))
   ·obtain rfl : j = 0 := by omega
    rw [eLe_iff]; omega
  ·obtain ⟨k, hk, e, hm⟩ := rfS_is d s x n (by omega)
   show ∃ k', k' < n + 1 ∧ (if (rfS d s x n).1 < 0 ∨ (elA d s x n).c ≤ (rfS d s x n).2 then ((n : Int), (elA d s x n).c) else rfS d s x n) = _ ∧ _
   rw [e]
   by_cases hc : (elA d s x n).c ≤ (elA d s x k).c
   ·rw [if_pos (.inr hc)]
    refine ⟨n, by omega, rfl, fun j hj => ?_⟩
    by_cases hjn : j = n
    ·subst hjn; rw [eLe_iff]; omega
    ·refine eLe.trans ?_ (hm j (by omega))
     rw [eLe_iff]
     show (elA d s x n).c < (elA d s x k).c ∨ ((elA d s x n).c = (elA d s x k).c ∧ ((k : Nat) : Int) ≤ ((n : Nat) : Int))
     omega
   ·rw [if_neg (fun h => h.elim (fun h => absurd h (by show ¬ (k : Int) < 0; omega)) hc)]
    refine ⟨k, by omega, rfl, fun j hj => ?_⟩
    by_cases hjn : j = n
    ·subst hjn; rw [eLe_iff]; left; omega
    ·exact hm j (by omega)
def bi (d s x : List Int) : Nat := (rfS d s x d.length).1.toNat
theorem bi_is (d s x : List Int) (h : 0 < d.length) : bi d s x < d.length ∧ rfS d s x d.length = (((bi d s x : Nat) : Int), (elA d s x (bi d s x)).c) ∧ ∀ j, j < d.length → eLe (elA d s x (bi d s x)) (elA d s x j) := by
 obtain ⟨k, hk, e, hm⟩ := rfS_is d s x d.length h
 have : bi d s x = k := by unfold bi; rw [e]; show (k : Int).toNat = k; omega
 rw [this]
 exact ⟨hk, e, hm⟩
def inc (x : List Int) (i : Nat) : List Int := x.set i (x.getD i 0 + 1)
theorem inc_len (x : List Int) (i : Nat) : (inc x i).length = x.length := by unfold inc; simp
theorem inc_get (x : List Int) {i : Nat} (h : i < x.length) (j : Nat) : (inc x i).getD j 0 = if j = i then x.getD i 0 + 1 else x.getD j 0 := by
 unfold inc
 rw [List.getD_eq_getElem?_getD, List.getElem?_set]
 by_cases e : i = j
 ·subst e
  rw [if_pos rfl, if_pos h, if_pos rfl]; rfl
 ·rw [if_neg e, if_neg (Ne.symm e), List.getD_eq_getElem?_getD]
def stN (d s : List Int) : Nat → List Int → List Int
 | 0, x => x
 | k + 1, x => stN d s k (inc x (bi d s x))
structure Iq (d s x : List Int) (q : List El) : Prop where
 perm : q.Perm ((List.range d.length).map (elA d s x))
 hp : HpO q
theorem Iq.len {d s x : List Int} {q : List El} (h : Iq d s x q) : q.length = d.length := by rw [h.perm.length_eq]; simp
theorem gt_mem {q : List El} {k : Nat} (h : k < q.length) : gt q k ∈ q := by
 unfold gt
 rw [List.getD_eq_getElem?_getD, List.getElem?_eq_getElem h]
 exact List.getElem_mem h
theorem Iq.first {d s x : List Int} {q : List El} (h : Iq d s x q) (h0 : 0 < d.length) : gt q 0 = elA d s x (bi d s x) := by
 have hl := h.len
 obtain ⟨b1, -, b3⟩ := bi_is d s x h0
 have hm := h.perm.mem_iff.1 (gt_mem (q := q) (k := 0) (by omega))
 obtain ⟨k, hk, e⟩ := List.mem_map.1 hm
 rw [List.mem_range] at hk
 have hb : elA d s x (bi d s x) ∈ q := h.perm.mem_iff.2 (List.mem_map.2 ⟨_, List.mem_range.2 b1, rfl⟩)
 obtain ⟨j, hj, ej⟩ := List.mem_iff_getElem.1 hb
 have h1 : eLe (gt q 0) (elA d s x (bi d s x)) := by
  have := h.hp.min j j (Nat.le_refl _) hj
  have e2 : gt q j = elA d s x (bi d s x) := by rw [← ej]; unfold gt; rw [List.getD_eq_getElem?_getD, List.getElem?_eq_getElem hj]; rfl
  rw [e2] at this; exact this
 have h2 := b3 k hk
 rw [e] at h2
 rw [eLe_iff] at h1 h2
 have : (gt q 0).c = (elA d s x (bi d s x)).c ∧ (gt q 0).i = (elA d s x (bi d s x)).i := by omega
 cases hq : gt q 0
 cases hw : elA d s x (bi d s x)
 rw [hq, hw] at this
 simp at this
 rw [this.1, this.2]
theorem set_perm {q l : List El} {e e' : El} {t : List El} {k : Nat} (hq : q = e :: t) (h : q.Perm l) (hk : k < l.length) (he : l[k] = e) : (e' :: t).Perm (l.set k e') := by
 subst hq
 have hl : l = l.take k ++ e :: l.drop (k + 1) := by
  rw [← he, List.getElem_cons_drop, List.take_append_drop]
 rw [List.set_eq_take_append_cons_drop, if_pos hk]
 rw [hl] at h
 have h1 : (e :: t).Perm (e :: (l.take k ++ l.drop (k + 1))) := h.trans List.perm_middle
 exact (h1.cons_inv.cons e').trans List.perm_middle.symm
theorem Iq.step {d s x : List Int} {q : List El} (h : Iq d s x q) (h0 : 0 < d.length) (hx : x.length = d.length) :
    Iq d s (inc x (bi d s x)) (dnP q.length (q.set 0 ⟨cst (d.getD (bi d s x) 0) (s.getD (bi d s x) 0) ((inc x (bi d s x)).getD (bi d s x) 0), (bi d s x : Nat)⟩) 0).1 := by
  have hl := h.len
  have hf := h.first h0
  obtain ⟨b1, -, b3⟩ := bi_is d s x h0
  generalize bi d s x = k at *
  refine ⟨(dnP_perm _ _ _ (by rw [List.length_set]; omega)).trans ?_, h.hp.fix _ (by omega)⟩
  cases q with
  | nil => simp at hl; omega
  | cons e t =>
    have e1 : e = elA d s x k := hf
    have e2 : (List.range d.length).map (elA d s (inc x k)) = ((List.range d.length).map (elA d s x)).set k (elA d s (inc x k) k) := by
      refine List.ext_getElem (by simp) fun i h1 h2 => ?_
      rw [List.getElem_set]
      simp only [List.length_map, List.length_range] at h1
      simp only [List.getElem_map, List.getElem_range]
      by_cases hi : k = i
      · subst hi; rw [if_pos rfl]
      · rw [if_neg hi]
        unfold elA
        rw [inc_get x (by omega), if_neg (Ne.symm hi)]
    rw [e2]
    exact set_perm (q := e :: t) rfl h.perm (by simp; exact b1) (by simp [e1])
theorem Iq.nil (s x : List Int) : Iq [] s x [] := ⟨.refl _, fun k k0 kl => by simp at kl⟩
def q0 (d s x : List Int) : Nat → List El
 | 0 => []
 | i + 1 => upP i (q0 d s x i ++ [elA d s x i]) i
theorem q0_is (d s x : List Int) : ∀ n, (q0 d s x n).Perm ((List.range n).map (elA d s x)) ∧ HpO (q0 d s x n) ∧ (q0 d s x n).length = n
 | 0 => ⟨.refl _, fun k k0 kl => by simp [q0] at kl, rfl⟩
 | n + 1 => by
  obtain ⟨h1, h2, h3⟩ := q0_is d s x n
  have hl : (q0 d s x n ++ [elA d s x n]).length = n + 1 := by simp [h3]
  refine ⟨?_, ?_, ?_⟩
  ·show (upP n (q0 d s x n ++ [elA d s x n]) n).Perm _
   refine (upP_perm _ _ _ (by omega)).trans ?_
   rw [List.range_succ, List.map_append]
   exact h1.append_right _
  ·show HpO (upP n (q0 d s x n ++ [elA d s x n]) n)
   have := h2.push (elA d s x n)
   rw [h3] at this
   exact this
  ·show (upP n (q0 d s x n ++ [elA d s x n]) n).length = _
   rw [upP_len, hl]
theorem q0_Iq (d s x : List Int) : Iq d s x (q0 d s x d.length) := ⟨(q0_is d s x _).1, (q0_is d s x _).2.1⟩
theorem flat_drop {α : Type} (f : α → List V) (s : Nat) (hf : ∀ x, (f x).length = s) : ∀ (l : List α) (i : Nat), (l.flatMap f).drop (i * s) = (l.drop i).flatMap f
 | l, 0 => by simp
 | [], i + 1 => by simp
 | x :: l, i + 1 => by
  rw [List.flatMap_cons, Nat.add_one_mul, Nat.add_comm, ← List.drop_drop, List.drop_left' (hf x), flat_drop f s hf l i]; rfl
theorem flat_take {α : Type} (f : α → List V) (s : Nat) (hf : ∀ x, (f x).length = s) : ∀ (l : List α) (i : Nat), (l.flatMap f).take (i * s) = (l.take i).flatMap f
 | l, 0 => by simp
 | [], i + 1 => by simp
 | x :: l, i + 1 => by
  rw [List.flatMap_cons, Nat.add_one_mul, Nat.add_comm, List.take_add, List.take_append_of_le_length (by rw [hf]; omega), List.take_of_length_le (by rw [hf]; omega), List.drop_append_of_le_length (by rw [hf]; omega), List.drop_of_length_le (by rw [hf]; omega), List.nil_append, flat_take f s hf l i]; rfl
theorem flat_lenF {α : Type} (f : α → List V) (s : Nat) (hf : ∀ x, (f x).length = s) (l : List α) : (l.flatMap f).length = l.length * s := by
 induction l with
 | nil => simp
 | cons x l ih => rw [List.flatMap_cons, List.length_append, hf, ih, List.length_cons, Nat.add_one_mul, Nat.add_comm]
theorem flat_at {α : Type} (f : α → List V) (s : Nat) (hf : ∀ x, (f x).length = s) (l : List α) (d : α) {i : Nat} (hi : i < l.length) : ((l.flatMap f).drop (i * s)).take s = f (l.getD i d) := by
 rw [flat_drop f s hf, List.drop_eq_getElem_cons hi, List.flatMap_cons, List.take_append_of_le_length (by rw [hf]; omega), List.take_of_length_le (by rw [hf]; omega), List.getD_eq_getElem?_getD, List.getElem?_eq_getElem hi]; rfl
theorem flat_getD {α : Type} (f : α → List V) (s : Nat) (hf : ∀ x, (f x).length = s) (l : List α) (d : α) {i k : Nat} (hi : i < l.length) (hk : k < s) : (l.flatMap f).getD (i * s + k) .junk = (f (l.getD i d)).getD k .junk := by
 rw [← flat_at f s hf l d hi, List.getD_eq_getElem?_getD, List.getD_eq_getElem?_getD, List.getElem?_take, if_pos hk, List.getElem?_drop]
theorem set_eq_app {α : Type} (l : List α) {i : Nat} (hi : i < l.length) (x : α) : l.set i x = l.take i ++ x :: l.drop (i + 1) := by
 rw [List.set_eq_take_append_cons_drop, if_pos hi]
theorem flat_set {α : Type} (f : α → List V) (s : Nat) (hf : ∀ x, (f x).length = s) (l : List α) (d : α) {i k : Nat} (hi : i < l.length) (hk : k < s) (v : V) (y : α) (hy : f y = (f (l.getD i d)).set k v) : spl (l.flatMap f) (i * s + k) [v] = (l.set i y).flatMap f := by
 have hlt : i * s + k < (l.flatMap f).length := by
  rw [flat_lenF f s hf]
  have : (i + 1) * s ≤ l.length * s := Nat.mul_le_mul_right _ hi
  rw [Nat.add_one_mul] at this
  omega
 have e1 : spl (l.flatMap f) (i * s + k) [v] = (l.flatMap f).set (i * s + k) v := by
  rw [set_eq_app _ hlt]; simp [spl]
 rw [e1, set_eq_app l hi, List.flatMap_append, List.flatMap_cons, hy, ← flat_take f s hf, ← flat_drop f s hf]
 have hle : i * s ≤ (l.flatMap f).length := by omega
 rw [← List.take_append_drop (i * s) (l.flatMap f), List.set_append_right _ _ (by rw [List.length_take]; omega)]
 rw [List.length_take, Nat.min_eq_left hle, Nat.add_sub_cancel_left, List.take_append_of_le_length (by rw [List.length_take]; omega), List.take_take, Nat.min_self]
 congr 1
 have e2 : (l.flatMap f).drop (i * s) = f (l.getD i d) ++ (l.flatMap f).drop ((i + 1) * s) := by
  rw [← flat_at f s hf l d hi, Nat.add_one_mul]
  rw [← List.drop_drop, List.take_append_drop]
 rw [List.take_append_drop, e2, List.set_append_left _ _ (by rw [hf]; exact hk)]
theorem flat_put {α : Type} (f : α → List V) (s : Nat) (hf : ∀ x, (f x).length = s) (l : List α) {i : Nat} (hi : i < l.length) (y : α) : spl (l.flatMap f) (i * s) (f y) = (l.set i y).flatMap f := by
 unfold spl
 rw [flat_take f s hf, hf, show i * s + s = (i + 1) * s by rw [Nat.add_mul, Nat.one_mul], flat_drop f s hf, set_eq_app l hi, List.flatMap_append, List.flatMap_cons, List.append_assoc]
abbrev elC (e : El) : List V := [I e.c, I e.i]
abbrev elV (e : El) : V := .agg [I e.c, I e.i]
theorem el_len (e : El) : (elC e).length = 2 := rfl
theorem el_c (l : List El) {k : Nat} (h : k < l.length) : (l.flatMap elC).getD (k * 2) .junk = I (gt l k).c := flat_getD elC 2 el_len l default h (k := 0) (by decide)
theorem el_i (l : List El) {k : Nat} (h : k < l.length) : (l.flatMap elC).getD (k * 2 + 1) .junk = I (gt l k).i := flat_getD elC 2 el_len l default h (k := 1) (by decide)
theorem el_at (l : List El) {k : Nat} (h : k < l.length) : ((l.flatMap elC).drop (k * 2)).take 2 = elC (gt l k) := flat_at elC 2 el_len l default h
theorem elL (l : List El) : (l.flatMap elC).length = l.length * 2 := flat_lenF elC 2 el_len l
theorem c71 (x d s : Int) (H : Hp) (hx : 0 ≤ x ∧ x ≤ 1000000) (hd : 0 ≤ d ∧ d ≤ 1000000) (hs : 0 ≤ s ∧ s ≤ 1000000) : Ret Try.prog 71 [I x, I d, I s] H (I (cst d s x)) H := by
 have hb : s * (2 * (x - d) + 1) ≤ 1000000 * 2000001 ∧ -(1000000 * 2000001) ≤ s * (2 * (x - d) + 1) := by
  have h1 := Int.mul_le_mul_of_nonneg_left (show 2 * (x - d) + 1 ≤ 2000001 by omega) hs.1
  have h2 := Int.mul_le_mul_of_nonneg_left (show -2000001 ≤ 2 * (x - d) + 1 by omega) hs.1
  have h3 := Int.mul_le_mul_of_nonneg_right hs.2 (show (0 : Int) ≤ 2000001 by decide)
  omega
 have r1 : R64 (x - d) := by unfold R64; omega
 have r2 : R64 (2 * (x - d)) := by unfold R64; omega
 have r3 : R64 (2 * (x - d) + 1) := by unfold R64; omega
 have r4 : R64 (s * (2 * (x - d) + 1)) := by unfold R64; omega
 refine mk71 _ _ _ rfl (Nat.le_refl _) (.inl rfl) ?_
 simp only [vc71, real]
 repeat (first | (with_reducible first | refine Ju.go ?_ | (refine Hd.go ?_; intro K Q hK hQ; simp only [nod_imm, Try.underlying3, e_sub, r1, true_and, e_mul, r2, e_add, r3, r4]; subst hK hQ) | refine Jr.go ?_) | refine sd ?_)
 exact end1 (fzI _)
theorem c139 (b n : Nat) (H : Hp) : Ret Try.prog 139 [blV 2 b n] H (I n) H := by
 refine mk139 _ rfl (Nat.le_refl _) (.inl rfl) ?_
 simp only [vc139, real]
 repeat (first | (with_reducible first | refine Ju.go ?_ | (refine Hd.go ?_; intro K Q hK hQ; simp only [blV_nod, blV_len]; subst hK hQ) | refine Jr.go ?_) | refine sd ?_)
 exact end1 (fzI _)
theorem c140 (l : List El) (b : Nat) {i j : Nat} {H : Hp} (hb : H[b]? = some (.cells (l.flatMap elC))) (hi : i < l.length) (hj : j < l.length) : Ret Try.prog 140 [.sl b 0 l.length l.length 2, I i, I j] H (B (elLt (gt l i) (gt l j))) H := by
 have di : (i : Int) < l.length := by omega
 have dj : (j : Int) < l.length := by omega
 have hL := elL l
 have i0 : i * 2 + 1 ≤ l.length * 2 := by omega
 have i1 : i * 2 + 1 + 1 ≤ l.length * 2 := by omega
 have j0 : j * 2 + 1 ≤ l.length * 2 := by omega
 have j1 : j * 2 + 1 + 1 ≤ l.length * 2 := by omega
 have ci := el_c l hi
 have cj := el_c l hj
 have ii := el_i l hi
 have ij := el_i l hj
 refine mk140 _ _ _ rfl (Nat.le_refl _) (.inl rfl) ?_
 simp only [vc140, real]
 by_cases he : (gt l i).c = (gt l j).c
 ·have e : elLt (gt l i) (gt l j) = decide ((gt l j).i < (gt l i).i) := by unfold elLt; rw [decide_eq_true he]; rfl
  rw [e]
  repeat (first | (with_reducible first | refine Ju.go ?_ | (refine Hd.go ?_; intro K Q hK hQ; simp only [nod_sl, nod_imm, e_ixS, di, Int.toNat_natCast, Nat.zero_add, true_and, nod_ptr, e_fa, Nat.add_zero, ld_at hb, hL, i0, ci, he, dj, j0, cj, Try.underlying3, e_neq, decide_true, Bool.not_true, List.getD_cons_succ, List.getD_cons_zero, e_cond, Bool.false_eq_true, if_false, i1, ii, j1, ij, e_gtr]; subst hK hQ) | refine Jr.go ?_) | refine sd ?_)
  exact end1 (fzI _)
 ·have e : elLt (gt l i) (gt l j) = decide ((gt l i).c < (gt l j).c) := by unfold elLt; rw [decide_eq_false he]; rfl
  rw [e]
  repeat (first | (with_reducible first | refine Ju.go ?_ | (refine Hd.go ?_; intro K Q hK hQ; simp only [nod_sl, nod_imm, e_ixS, di, Int.toNat_natCast, Nat.zero_add, true_and, nod_ptr, e_fa, Nat.add_zero, ld_at hb, hL, i0, ci, dj, j0, cj, Try.underlying3, e_neq, he, decide_false, Bool.not_false, List.getD_cons_succ, List.getD_cons_zero, e_cond, if_true, e_lss]; subst hK hQ) | refine Jr.go ?_) | refine sd ?_)
  exact end1 (fzI _)
theorem stE {b o : Nat} {e : El} {cs : List V} {H : Hp} {KH : V → Hp → Prop} (h : H[b]? = some (.cells cs)) : aSt 2 (.ptr b o) (.agg [I e.c, I e.i]) H KH = (o + 2 ≤ cs.length ∧ KH .junk (H.set b (.cells (spl cs o (elC e))))) := by
 rw [st_at h]
 have e1 : okE 2 (stV (.agg [I e.c, I e.i])) = True := eq_true ⟨rfl, fun c hc => by
  simp only [stV, V.cl, List.map_cons, List.map_nil, List.mem_cons, List.not_mem_nil, or_false] at hc
  rcases hc with rfl | rfl <;> rfl⟩
 rw [e1, true_and]
 rfl
theorem c142 (l : List El) (b : Nat) {i j : Nat} {H : Hp} (hb : H[b]? = some (.cells (l.flatMap elC))) (hi : i < l.length) (hj : j < l.length) : RetE Try.prog 142 [.sl b 0 l.length l.length 2, I i, I j] H (fun _ H' => H' = H.set b (.cells ((swp l i j).flatMap elC))) := by
 have di : (i : Int) < l.length := by omega
 have dj : (j : Int) < l.length := by omega
 have hL := elL l
 have i1 : i * 2 + 2 ≤ l.length * 2 := by omega
 have j1 : j * 2 + 2 ≤ l.length * 2 := by omega
 have ai := el_at l hi
 have aj := el_at l hj
 have hlt := get_lt hb
 have h2 : (H.set b (.cells ((l.set i (gt l j)).flatMap elC)))[b]? = some (.cells ((l.set i (gt l j)).flatMap elC)) := List.getElem?_set_self hlt
 have p1 := flat_put elC 2 el_len l hi (gt l j)
 have p2 := flat_put elC 2 el_len (l.set i (gt l j)) (i := j) (by rw [List.length_set]; exact hj) (gt l i)
 have hL2 : ((l.set i (gt l j)).flatMap elC).length = l.length * 2 := by rw [elL, List.length_set]
 refine mkE142 _ _ _ ?_
 simp only [vc142, real]
 repeat (first | (with_reducible first | refine Ju.go ?_ | (refine Hd.go ?_; intro K Q hK hQ; simp only [nod_sl, nod_imm, e_ixS, dj, Int.toNat_natCast, Nat.zero_add, true_and, nod_ptr, ldA_at hb, hL, j1, aj, nod_agg, List.map_cons, nodL_imm, List.map_nil, di, i1, ai, stE hb, p1]; subst hK hQ) | refine Jr.go ?_) | refine sd ?_)
 repeat (first | (with_reducible first | refine Ju.go ?_ | (refine Hd.go ?_; intro K Q hK hQ; simp only [stE h2, hL2, j1, p2, List.set_set, true_and]; subst hK hQ) | refine Jr.go ?_) | refine sd ?_)
 exact rfl
theorem invE_pv {P : Program} {nm : String} {t : Nat} {v : V} {args : List V} {f : Nat} {e : TypeId} {H : Hp} {KH : V → Hp → Prop} (hm : methOf P t nm = some (f, false)) (hu : P.underlying t = some (.pointer e)) (hs : (P.underlying e).isSome = true) (h0 : szT P e ≠ 0) (h : aLd (szT P e) (agT P e) false v H fun u H' => CallE P f (u :: args) H' KH) : aInvE P nm (.ifc t v) args H KH := by
 simp only [aInvE, hm, hu]
 exact ⟨hs, h0, h⟩
theorem mtL : methOf Try.prog 127 "Less" = some (140, false) := by kernel_rfl
theorem mtS : methOf Try.prog 127 "Swap" = some (142, false) := by kernel_rfl
theorem mtN : methOf Try.prog 127 "Len" = some (139, false) := by kernel_rfl
theorem mtP : methOf Try.prog 127 "Push" = some (141, true) := by kernel_rfl
theorem mtF : methOf Try.prog 127 "declaim/prosody.first" = some (143, false) := by kernel_rfl
theorem sz129 : szT Try.prog 129 = 1 := by kernel_rfl
theorem ag129 : agT Try.prog 129 = false := by kernel_rfl
theorem so129 : (Try.prog.underlying 129).isSome = true := by kernel_rfl
theorem inv_q {nm : String} {f bq : Nat} {u : V} {args : List V} {H : Hp} {K : V → Hp → Prop} (hm : methOf Try.prog 127 nm = some (f, false)) (hq : H[bq]? = some (.cells [u])) (h : CallE Try.prog f (u.nod :: args) H K) : aInvE Try.prog nm (.ifc 127 (.ptr bq 0)) args H K := by
 refine invE_pv hm Try.underlying127 so129 (by rw [sz129]; decide) ?_
 rw [sz129, ag129, ld_at hq]
 exact ⟨by simp, h⟩
structure Qh (H : Hp) (bq b : Nat) (l : List El) : Prop where
 q : H[bq]? = some (.cells [blV 2 b l.length])
 e : l.length ≠ 0 → H[b]? = some (.cells (l.flatMap elC)) ∧ b ≠ bq
abbrev quV (bq : Nat) : V := .ifc 127 (.ptr bq 0)
theorem Qh.put {H : Hp} {bq b : Nat} {l m : List El} (h : Qh H bq b l) (hl : m.length = l.length) (h0 : l.length ≠ 0) : Qh (H.set b (.cells (m.flatMap elC))) bq b m :=
 ⟨by rw [get_ne (h.e h0).2, hl]; exact h.q, fun _ => ⟨List.getElem?_set_self (get_lt (h.e h0).1), (h.e h0).2⟩⟩
theorem Qh.self {H : Hp} {bq b : Nat} {l : List El} (h : Qh H bq b l) (h0 : l.length ≠ 0) : H.set b (.cells (l.flatMap elC)) = H := by
 have hb := get_lt (h.e h0).1
 refine List.ext_getElem? fun c => ?_
 by_cases e : b = c
 ·subst e; rw [List.getElem?_set_self hb]; exact (h.e h0).1.symm
 ·exact get_ne e
theorem Qh.sl {H : Hp} {bq b : Nat} {l : List El} (h : Qh H bq b l) (h0 : l.length ≠ 0) : H[bq]? = some (.cells [.sl b 0 l.length l.length 2]) := by rw [h.q, blV_ne _ _ h0]
theorem c100 (l : List El) (bq b : Nat) {j : Nat} {H : Hp} (h : Qh H bq b l) (hj : j < l.length) (hl : l.length ≤ 1000000) : RetE Try.prog 100 [quV bq, I j] H (fun _ H' => H' = H.set b (.cells ((upP j l j).flatMap elC))) := by
 have h0 : l.length ≠ 0 := by omega
 refine mkE100 _ _ ?_
 simp only [vc100, real]
 repeat (first | (with_reducible first | refine Ju.go ?_ | (refine Hd.go ?_; intro K Q hK hQ; simp only []; subst hK hQ) | refine Jr.go ?_) | refine sd ?_)
 refine loop_of (fun q : Nat × List El => q.2.length = l.length ∧ q.1 < l.length ∧ ∃ f, q.1 ≤ f ∧ upP j l j = upP f q.2 q.1) (fun q => [quV bq, I q.1]) (fun q => H.set b (.cells (q.2.flatMap elC))) (fun q => q.1) (j, l) ⟨rfl, hj, j, Nat.le_refl _, rfl⟩ rfl (h.self h0) ?_
 rintro ⟨k, m⟩ ⟨hm, hk, f, hf, e⟩
 simp only at hm hk hf e ⊢
 have hQ := h.put hm h0
 have hm0 : m.length ≠ 0 := by omega
 have hS := hQ.sl hm0
 have hE := (hQ.e hm0).1
 have r1 : R64 ((k : Int) - 1) := by unfold R64; omega
 have ed : ((k : Int) - 1).tdiv 2 = (((k - 1) / 2 : Nat) : Int) := by
  by_cases hk0 : k = 0
  ·subst hk0; rfl
  ·rw [show (k : Int) - 1 = ((k - 1 : Nat) : Int) by omega, Int.tdiv_eq_ediv_of_nonneg (by omega)]
   rfl
 have r2 : R64 (((k : Int) - 1).tdiv 2) := by rw [ed]; unfold R64; omega
 have r3 : R64 (((k - 1) / 2 : Nat) : Int) := by unfold R64; omega
 repeat (first | (with_reducible first | refine Ju.go ?_ | (refine Hd.go ?_; intro K Q hK hQ; simp only [List.getD_cons_succ, List.getD_cons_zero, nod_imm, Try.underlying3, e_sub, r1, true_and, e_quo, ne_eq, Int.reduceEq, not_false_eq_true, ed, r3, e_eql, nod_ifc, e_gF]; subst hK hQ) | refine Jr.go ?_) | refine sd ?_)
 by_cases hp : (k - 1) / 2 = k
 ·have d : (((k - 1) / 2 : Nat) : Int) = (k : Int) := by omega
  repeat (first | (with_reducible first | refine Ju.go ?_ | (refine Hd.go ?_; intro K Q hK hQ; simp only [d, decide_true, cond_true, nod_imm, e_cond, if_true]; subst hK hQ) | refine Jr.go ?_) | refine sd ?_)
  have : upP j l j = m := by
   rw [e]
   cases f with
   | zero => rfl
   | succ f => exact if_pos (.inl hp)
  rw [this]
  exact rfl
 ·have d : ¬ (((k - 1) / 2 : Nat) : Int) = (k : Int) := by omega
  repeat (first | (with_reducible first | refine Ju.go ?_ | (refine Hd.go ?_; intro K Q hK hQ; simp only [d, decide_false, cond_false]; subst hK hQ) | refine Jr.go ?_) | refine sd ?_)
  refine inv_q mtL hS ?_
  refine call_of (c140 m b hE (by omega) (by omega)) ?_
  cases f with
  | zero => omega
  | succ f =>
   cases hlt : elLt (gt m k) (gt m ((k - 1) / 2))
   ·have : upP j l j = m := by rw [e]; exact if_pos (.inr hlt)
    repeat (first | (with_reducible first | refine Ju.go ?_ | (refine Hd.go ?_; intro K Q hK hQ; simp only [nod_imm, e_not, Bool.not_false, e_cond, if_true]; subst hK hQ) | refine Jr.go ?_) | refine sd ?_)
    rw [this]
    exact rfl
   ·have e2 : upP j l j = upP f (swp m ((k - 1) / 2) k) ((k - 1) / 2) := by
     rw [e]
     exact if_neg (fun h => h.elim hp (by rw [hlt]; decide))
    repeat (first | (with_reducible first | refine Ju.go ?_ | (refine Hd.go ?_; intro K Q hK hQ; simp only [nod_imm, e_not, Bool.not_true, e_cond, Bool.false_eq_true, if_false, List.getD_cons_zero, List.getD_cons_succ, nod_ifc]; subst hK hQ) | refine Jr.go ?_) | refine sd ?_)
    refine inv_q mtS hS ?_
    refine callE_of (c142 m b hE (i := (k - 1) / 2) (j := k) (by omega) (by omega)) ?_
    rintro v H' rfl
    exact ⟨((k - 1) / 2, swp m ((k - 1) / 2) k), ⟨by show (swp m _ k).length = _; rw [swp_len]; exact hm, by show (k - 1) / 2 < _; omega, f, by show (k - 1) / 2 ≤ f; omega, e2⟩, rfl, by rw [List.set_set], by show (k - 1) / 2 < k; omega⟩
theorem c101 (l : List El) (bq b : Nat) {H : Hp} (h : Qh H bq b l) (hj : 0 < l.length) (hl : l.length ≤ 1000000) : RetE Try.prog 101 [quV bq, I 0, I l.length] H (fun v H' => v = B (decide (0 < (dnP l.length l 0).2)) ∧ H' = H.set b (.cells ((dnP l.length l 0).1.flatMap elC))) := by
 have h0 : l.length ≠ 0 := by omega
 refine mkE101 _ _ _ ?_
 simp only [vc101, real]
 repeat (first | (with_reducible first | refine Ju.go ?_ | (refine Hd.go ?_; intro K Q hK hQ; simp only []; subst hK hQ) | refine Jr.go ?_) | refine sd ?_)
 refine loop_of (fun q : Nat × List El => q.2.length = l.length ∧ q.1 < l.length ∧ ∃ f, l.length ≤ f + q.1 ∧ dnP l.length l 0 = dnP f q.2 q.1) (fun q => [quV bq, I 0, I l.length, I q.1]) (fun q => H.set b (.cells (q.2.flatMap elC))) (fun q => l.length - q.1) (0, l) ⟨rfl, hj, l.length, by simp, rfl⟩ rfl (h.self h0) ?_
 rintro ⟨k, m⟩ ⟨hm, hk, f, hf, e⟩
 simp only at hm hk hf e ⊢
 have hQ := h.put hm h0
 have hm0 : m.length ≠ 0 := by omega
 have hS := hQ.sl hm0
 have hE := (hQ.e hm0).1
 have r1 : R64 (2 * (k : Int)) := by unfold R64; omega
 have r2 : R64 (2 * (k : Int) + 1) := by unfold R64; omega
 have r3 : R64 (2 * (k : Int) + 1 + 1) := by unfold R64; omega
 have n0 : ¬ 2 * (k : Int) + 1 < 0 := by omega
 cases f with
 | zero => omega
 | succ f =>
  have fin : ∀ (c : Bool), c = true → (dnP l.length l 0) = (m, k) → retW (fun v H' => v = B (decide (0 < (dnP l.length l 0).2)) ∧ H' = H.set b (.cells ((dnP l.length l 0).1.flatMap elC))) [B (decide ((0 : Int) < (k : Int)))] (H.set b (.cells (m.flatMap elC))) := by
   intro c _ e2
   rw [e2]
   refine endW ⟨?_, rfl⟩
   have : decide ((0 : Int) < (k : Int)) = decide (0 < k) := by rw [decide_eq_decide]; omega
   rw [this]; rfl
  repeat (first | (with_reducible first | refine Ju.go ?_ | (refine Hd.go ?_; intro K Q hK hQ; simp only [List.getD_cons_succ, List.getD_cons_zero, nod_imm, Try.underlying3, e_mul, r1, true_and, e_add, r2, e_geq, e_lss, e_gF, j_or', j_one, e_cond]; subst hK hQ) | refine Jr.go ?_) | refine sd ?_)
  by_cases hc : m.length ≤ 2 * k + 1
  ·have d : (l.length : Int) ≤ 2 * (k : Int) + 1 := by omega
   repeat (first | (with_reducible first | refine Ju.go ?_ | (refine Hd.go ?_; intro K Q hK hQ; simp only [d, decide_true, Bool.true_or, if_true, List.getD_cons_succ, List.getD_cons_zero, nod_imm, Try.underlying3, e_gtr]; subst hK hQ) | refine Jr.go ?_) | refine sd ?_)
   exact fin true rfl (by rw [e]; exact if_pos hc)
  ·have d : ¬ (l.length : Int) ≤ 2 * (k : Int) + 1 := by omega
   have c1 : 2 * (k : Int) + 1 = ((2 * k + 1 : Nat) : Int) := by omega
   have c2 : ((2 * k + 1 : Nat) : Int) + 1 = ((2 * k + 2 : Nat) : Int) := by omega
   rw [c1] at d n0 r3
   rw [c2] at r3
   repeat (first | (with_reducible first | refine Ju.go ?_ | (refine Hd.go ?_; intro K Q hK hQ; simp only [c1, d, decide_false, n0, Bool.or_self, Bool.false_eq_true, if_false, List.getD_cons_zero, List.getD_cons_succ, nod_imm, Try.underlying3, e_add, c2, r3, true_and, e_lss, nod_ifc, e_gT]; subst hK hQ) | refine Jr.go ?_) | refine sd ?_)
   have hJ := dnJ_lt hc
   have hJ2 : dnJ m k = 2 * k + 1 ∨ dnJ m k = 2 * k + 2 := by unfold dnJ; split <;> simp
   generalize hR : Rn _ = R
   have key : R [quV bq, I 0, I l.length, I k, I ((2 * k + 1 : Nat) : Int), I ((2 * k + 2 : Nat) : Int), B (decide (((2 * k + 2 : Nat) : Int) < (l.length : Int)) && elLt (gt m (2 * k + 2)) (gt m (2 * k + 1)))] (H.set b (.cells (m.flatMap elC))) := by
    subst hR
    generalize hcc : (decide (((2 * k + 2 : Nat) : Int) < (l.length : Int)) && elLt (gt m (2 * k + 2)) (gt m (2 * k + 1))) = cc
    repeat (first | (with_reducible first | refine Ju.go ?_ | (refine Hd.go ?_; intro K Q hK hQ; simp only [List.getD_cons_succ, List.getD_cons_zero, nod_imm, e_cond]; subst hK hQ) | refine Jr.go ?_) | refine sd ?_)
    generalize hR2 : Rn _ = R2
    have key2 : R2 [quV bq, I 0, I l.length, I k, I ((dnJ m k : Nat) : Int)] (H.set b (.cells (m.flatMap elC))) := by
     subst hR2
     repeat (first | (with_reducible first | refine Ju.go ?_ | (refine Hd.go ?_; intro K Q hK hQ; simp only [List.getD_cons_zero, nod_ifc, List.getD_cons_succ, nod_imm]; subst hK hQ) | refine Jr.go ?_) | refine sd ?_)
     refine inv_q mtL hS ?_
     refine call_of (c140 m b hE (i := dnJ m k) (j := k) hJ (by omega)) ?_
     cases hlt : elLt (gt m (dnJ m k)) (gt m k)
     ·have e2 : dnP l.length l 0 = (m, k) := by
       rw [e]
       exact (if_neg hc).trans (if_pos hlt)
      repeat (first | (with_reducible first | refine Ju.go ?_ | (refine Hd.go ?_; intro K Q hK hQ; simp only [nod_imm, e_not, Bool.not_false, e_cond, if_true, List.getD_cons_succ, List.getD_cons_zero, Try.underlying3, e_gtr]; subst hK hQ) | refine Jr.go ?_) | refine sd ?_)
      exact fin true rfl e2
     ·have e2 : dnP l.length l 0 = dnP f (swp m k (dnJ m k)) (dnJ m k) := by
       rw [e]
       exact (if_neg hc).trans (if_neg (by rw [hlt]; decide))
      repeat (first | (with_reducible first | refine Ju.go ?_ | (refine Hd.go ?_; intro K Q hK hQ; simp only [nod_imm, e_not, Bool.not_true, e_cond, Bool.false_eq_true, if_false, List.getD_cons_zero, nod_ifc, List.getD_cons_succ]; subst hK hQ) | refine Jr.go ?_) | refine sd ?_)
      refine inv_q mtS hS ?_
      refine callE_of (c142 m b hE (i := k) (j := dnJ m k) (by omega) hJ) ?_
      rintro v H' rfl
      exact ⟨(dnJ m k, swp m k (dnJ m k)), ⟨by show (swp m _ _).length = _; rw [swp_len]; exact hm, by show dnJ m k < _; omega, f, by show l.length ≤ f + dnJ m k; omega, e2⟩, rfl, by rw [List.set_set], by show l.length - dnJ m k < l.length - k; omega⟩
    cases cc
    ·have ej : dnJ m k = 2 * k + 1 := by
      refine if_neg fun h => ?_
      rw [Bool.and_eq_false_iff] at hcc
      rcases hcc with h1 | h1
      ·rw [decide_eq_false_iff_not] at h1; omega
      ·rw [h.2] at h1; cases h1
     rw [ej] at key2
     repeat (first | (with_reducible first | refine Ju.go ?_ | (refine Hd.go ?_; intro K Q hK hQ; simp only [Bool.false_eq_true, if_false]; subst hK hQ) | refine Jr.go ?_) | refine sd ?_)
     exact key2
    ·have ej : dnJ m k = 2 * k + 2 := by
      rw [Bool.and_eq_true, decide_eq_true_eq] at hcc
      exact if_pos ⟨by omega, hcc.2⟩
     rw [ej] at key2
     repeat (first | (with_reducible first | refine Ju.go ?_ | (refine Hd.go ?_; intro K Q hK hQ; simp only [if_true]; subst hK hQ) | refine Jr.go ?_) | refine sd ?_)
     exact key2
   by_cases h2 : 2 * k + 2 < l.length
   ·have d2 : decide (((2 * k + 2 : Nat) : Int) < (l.length : Int)) = true := decide_eq_true (by omega)
    rw [d2, Bool.true_and] at key
    repeat (first | (with_reducible first | refine Ju.go ?_ | (refine Hd.go ?_; intro K Q hK hQ; simp only [d2, cond_true]; subst hK hQ) | refine Jr.go ?_) | refine sd ?_)
    refine inv_q mtL hS ?_
    refine call_of (c140 m b hE (i := 2 * k + 2) (j := 2 * k + 1) (by omega) (by omega)) ?_
    repeat (first | (with_reducible first | refine Ju.go ?_ | (refine Hd.go ?_; intro K Q hK hQ; simp only [nod_imm]; subst hK hQ) | refine Jr.go ?_) | refine sd ?_)
    exact key
   ·have d2 : decide (((2 * k + 2 : Nat) : Int) < (l.length : Int)) = false := decide_eq_false (by omega)
    rw [d2, Bool.false_and] at key
    repeat (first | (with_reducible first | refine Ju.go ?_ | (refine Hd.go ?_; intro K Q hK hQ; simp only [d2, cond_false]; subst hK hQ) | refine Jr.go ?_) | refine sd ?_)
    exact key
theorem bs_el (a b : Int) (z : V) (K : V → Prop) : aBS 2 1 z [(0, .agg [I a, I b])] K = K (.arr [.agg [I a, I b]] .full) := by
 have h : okE 2 (.agg [I a, I b]) = True := eq_true ⟨rfl, fun c hc => by
  simp only [V.cl, List.mem_cons, List.not_mem_nil, or_false] at hc
  rcases hc with rfl | rfl <;> rfl⟩
 simp [aBS, aPs, setP, h]
theorem ta_el (v : V) (K : V → Prop) : aTA 135 false (.ifc 135 v) K = K v := by
 show (135 = 135 ∧ K v) = _
 exact propext ⟨fun h => h.2, fun h => ⟨rfl, h⟩⟩
def QFr (H H' : Hp) (bq b n : Nat) : Prop := H.length ≤ H'.length ∧ ∀ c, c < H.length → c ≠ bq → (n ≠ 0 → c ≠ b) → H'[c]? = H[c]?
theorem c141 (l : List El) (e : El) (bq b : Nat) {H : Hp} (h : Qh H bq b l) (hl : l.length ≤ 1000000) : RetE Try.prog 141 [.ptr bq 0, .ifc 135 (elV e)] H (fun _ H' => Qh H' bq H.length (l ++ [e]) ∧ QFr H H' bq b l.length) := by
 have hq := h.q
 have hqb := get_lt hq
 have hself : H.set bq (.cells [blV 2 b l.length]) = H := by
  refine List.ext_getElem? fun c => ?_
  by_cases e : bq = c
  ·subst e; rw [List.getElem?_set_self hqb]; exact hq.symm
  ·exact get_ne e
 refine mkE141 _ _ ?_
 simp only [vc141, real]
 repeat (first | (with_reducible first | refine Ju.go ?_ | (refine Hd.go ?_; intro K Q hK hQ; simp only [nod_ptr, e_ncP, ldM_at hq, Nat.zero_add, lv_cons, List.length_nil, Nat.reduceLeDiff, List.getD_cons_zero, blV_nodL, vs_0, hself, true_and, nod_ifc, ta_el, nod_agg, List.map_cons, nodL_imm, List.map_nil, bs_el, nod_arr, nd_full]; subst hK hQ) | refine Jr.go ?_) | refine sd ?_)
 refine app_bl (b := b) (n := l.length) (cs := l.flatMap elC) (fun e => by rw [List.length_eq_zero_iff.1 e]; rfl) (fun e => (h.e e).1) (elL l) (fun c hc => by
  obtain ⟨y, -, hy⟩ := List.mem_flatMap.1 hc
  simp only [List.mem_cons, List.not_mem_nil, or_false] at hy
  rcases hy with rfl | rfl <;> rfl) (fun x hx => by
  simp only [List.mem_singleton] at hx
  subst hx
  exact ⟨rfl, fun c hc => by
   simp only [V.cl, List.mem_cons, List.not_mem_nil, or_false] at hc
   rcases hc with rfl | rfl <;> rfl⟩) (by simp; omega) (fun _ e => by cases e) (fun _ => ?_)
 have eL : (l ++ [e]).length = l.length + 1 := by simp
 have eC : l.flatMap elC ++ [V.agg [I e.c, I e.i]].flatMap V.cl = (l ++ [e]).flatMap elC := by simp [V.cl]
 rw [eC]
 simp only [List.length_singleton]
 have hq2 : (killB H b l.length ++ [Blk.cells ((l ++ [e]).flatMap elC)])[bq]? = some (.cells [blV 2 b l.length]) := by
  rw [List.getElem?_append_left (by rw [killB_len]; exact hqb), killB_ne _ _ _ (fun e => (h.e e).2)]
  exact hq
 have hqs : ((killB H b l.length ++ [Blk.cells ((l ++ [e]).flatMap elC)]).set bq (.cells [blV 2 H.length (l.length + 1)]))[bq]? = some (.cells [blV 2 H.length (l.length + 1)]) := List.getElem?_set_self (get_lt hq2)
 have hb2 : ((killB H b l.length ++ [Blk.cells ((l ++ [e]).flatMap elC)]).set bq (.cells [blV 2 H.length (l.length + 1)]))[H.length]? = some (.cells ((l ++ [e]).flatMap elC)) := by
  rw [get_ne (by omega), List.getElem?_append_right (by rw [killB_len]; exact Nat.le_refl _), killB_len, Nat.sub_self]; rfl
 repeat (first | (with_reducible first | refine Ju.go ?_ | (refine Hd.go ?_; intro K Q hK hQ; simp only [nod_ptr, e_ncP, st_at hq2, Nat.zero_add, lv_cons, List.length_nil, Nat.reduceLeDiff, blV_st, blV_ok, blV_cl, spl_0, spl_n, true_and]; subst hK hQ) | refine Jr.go ?_) | refine sd ?_)
 refine ⟨⟨by rw [eL]; exact hqs, fun _ => ⟨hb2, by omega⟩⟩, ?_, fun c hc h1 h2 => ?_⟩
 ·simp only [List.length_set, List.length_append, killB_len]; omega
 ·rw [get_ne (Ne.symm h1), List.getElem?_append_left (by rw [killB_len]; exact hc), killB_ne _ _ _ (fun e => (h2 e).symm)]
theorem c70 (l : List El) (e : El) (bq b : Nat) {H : Hp} (h : Qh H bq b l) (hl : l.length ≤ 100000) : RetE Try.prog 70 [quV bq, .ifc 135 (elV e)] H (fun _ H' => Qh H' bq H.length (upP l.length (l ++ [e]) l.length) ∧ QFr H H' bq b l.length) := by
 have eL : (l ++ [e]).length = l.length + 1 := by simp
 refine mkE70 _ _ ?_
 simp only [vc70, real]
 repeat (first | (with_reducible first | refine Ju.go ?_ | (refine Hd.go ?_; intro K Q hK hQ; simp only [nod_ifc]; subst hK hQ) | refine Jr.go ?_) | refine sd ?_)
 refine invE_ptr mtP Try.underlying127 ?_
 refine callE_of (c141 l e bq b h (by omega)) ?_
 rintro v H1 ⟨h1, f1, f2⟩
 repeat (first | (with_reducible first | refine Ju.go ?_ | (refine Hd.go ?_; intro K Q hK hQ; simp only [nod_ifc]; subst hK hQ) | refine Jr.go ?_) | refine sd ?_)
 refine inv_q mtN h1.q ?_
 rw [blV_nod]
 refine call_of (c139 _ _ _) ?_
 have r : R64 (((l ++ [e]).length : Int) - 1) := by unfold R64; omega
 have e1 : ((l ++ [e]).length : Int) - 1 = l.length := by omega
 repeat (first | (with_reducible first | refine Ju.go ?_ | (refine Hd.go ?_; intro K Q hK hQ; simp only [nod_imm, Try.underlying3, e_sub, e1, nod_ifc]; subst hK hQ) | refine Jr.go ?_) | refine sd ?_)
 refine callE_of (c100 (l ++ [e]) bq H.length h1 (j := l.length) (by omega) (by omega)) ?_
 rintro v H2 rfl
 repeat (first | (with_reducible first | refine Ju.go ?_ | (refine Hd.go ?_; intro K Q hK hQ; simp only []; subst hK hQ) | refine Jr.go ?_) | refine sd ?_)
 refine ⟨h1.put (by rw [upP_len]) (by omega), ?_, fun c hc k1 k2 => ?_⟩
 ·rw [List.length_set]; exact f1
 ·rw [get_ne (by omega)]
  exact f2 c hc k1 k2
theorem c72 (l : List El) (bq b : Nat) {H : Hp} (h : Qh H bq b l) (h0 : 0 < l.length) (hl : l.length ≤ 1000000) : RetE Try.prog 72 [quV bq, I 0] H (fun _ H' => H' = H.set b (.cells ((dnP l.length l 0).1.flatMap elC))) := by
 refine mkE72 _ _ ?_
 simp only [vc72, real]
 repeat (first | (with_reducible first | refine Ju.go ?_ | (refine Hd.go ?_; intro K Q hK hQ; simp only [nod_ifc]; subst hK hQ) | refine Jr.go ?_) | refine sd ?_)
 refine inv_q mtN h.q ?_
 rw [blV_nod]
 refine call_of (c139 _ _ _) ?_
 repeat (first | (with_reducible first | refine Ju.go ?_ | (refine Hd.go ?_; intro K Q hK hQ; simp only [nod_ifc, nod_imm]; subst hK hQ) | refine Jr.go ?_) | refine sd ?_)
 refine callE_of (c101 l bq b h h0 hl) ?_
 rintro v H1 ⟨rfl, rfl⟩
 have hQ := h.put (m := (dnP l.length l 0).1) (dnP_len _ _ _) (by omega)
 by_cases hm : 0 < (dnP l.length l 0).2
 ·rw [decide_eq_true hm]
  repeat (first | (with_reducible first | refine Ju.go ?_ | (refine Hd.go ?_; intro K Q hK hQ; simp only [nod_imm, e_not, Bool.not_true, e_cond, Bool.false_eq_true, if_false]; subst hK hQ) | refine Jr.go ?_) | refine sd ?_)
  exact rfl
 ·rw [decide_eq_false hm]
  repeat (first | (with_reducible first | refine Ju.go ?_ | (refine Hd.go ?_; intro K Q hK hQ; simp only [nod_imm, e_not, Bool.not_false, e_cond, if_true, nod_ifc]; subst hK hQ) | refine Jr.go ?_) | refine sd ?_)
  refine callE_of (c100 (dnP l.length l 0).1 bq b hQ (j := 0) (by rw [dnP_len]; exact h0) (by rw [dnP_len]; exact hl)) ?_
  rintro v H2 rfl
  repeat (first | (with_reducible first | refine Ju.go ?_ | (refine Hd.go ?_; intro K Q hK hQ; simp only []; subst hK hQ) | refine Jr.go ?_) | refine sd ?_)
  show List.set _ _ _ = _
  rw [List.set_set]
  rfl
theorem RetE.mono {P : Program} {f : Nat} {args : List V} {H : Hp} {Q Q' : V → Hp → Prop} (h : RetE P f args H Q) (k : ∀ v H', Q v H' → Q' v H') : RetE P f args H Q' :=
 ⟨h.1, fun σ w ra h1 h2 h3 => (h.2 σ w ra h1 h2 h3).mono fun e w' ⟨v, H', hq, hx⟩ => ⟨v, H', k v H' hq, hx⟩⟩
theorem RetE.ofRet {P : Program} {f : Nat} {args : List V} {H H' : Hp} {v : V} (h : Ret P f args H v H') : RetE P f args H (fun v' H'' => v' = v ∧ H'' = H') := ⟨h.1, fun σ w ra hl hst hn => (h.2 σ w ra hl hst hn).mono fun e w' ⟨x, σ', h1, h2, h3⟩ => ⟨v, H', ⟨rfl, rfl⟩, x, σ', h1, h2, h3⟩⟩
theorem c64n (H : Hp) : Ret Try.prog 64 [ints [] .no] H (ints [] .no) H := by
 refine mk64 _ rfl (Nat.le_refl _) (.inl rfl) ?_
 simp only [vc64, real]
 repeat (first | (with_reducible first | refine Ju.go ?_ | (refine Hd.go ?_; intro K Q hK hQ; simp only [nod_ints, nd_no, Try.underlying22, e_nilE, ne_eq, not_true_eq_false, false_implies, true_implies, true_and]; subst hK hQ) | refine Jr.go ?_) | refine sd ?_)
 refine ⟨?_, ?_⟩
 ·repeat (first | (with_reducible first | refine Ju.go ?_ | (refine Hd.go ?_; intro K Q hK hQ; simp only [nod_imm, e_cond, if_true]; subst hK hQ) | refine Jr.go ?_) | refine sd ?_)
  exact end1 end_nil
 ·repeat (first | (with_reducible first | refine Ju.go ?_ | (refine Hd.go ?_; intro K Q hK hQ; simp only [nod_imm, e_cond, Bool.false_eq_true, if_false, bs0, nod_ints, nd_no, e_app0, List.length_nil]; subst hK hQ) | refine Jr.go ?_) | refine sd ?_)
  exact end1 end_any
theorem c64b (l : List Int) (H : Hp) (hl : l ≠ []) (hn : l.length ≤ 1000000) : Ret Try.prog 64 [ints l .no] H (.sl H.length 0 l.length l.length 1) (H ++ [.cells (l.map I)]) := by
 refine ret_ofE (Q := fun v H' => v = .sl H.length 0 l.length l.length 1 ∧ H' = H ++ [.cells (l.map I)]) ?_ (fun _ _ h => h)
 refine mkE64b _ ?_
 simp only [vc64b, real]
 repeat (first | (with_reducible first | refine Ju.go ?_ | (refine Hd.go ?_; intro K Q hK hQ; simp only [nod_ints, nd_no, Try.underlying22, e_nilE, ne_eq]; subst hK hQ) | refine Jr.go ?_) | refine sd ?_)
 refine ⟨fun _ => ?_, fun h => absurd h hl⟩
 repeat (first | (with_reducible first | refine Ju.go ?_ | (refine Hd.go ?_; intro K Q hK hQ; simp only [nod_imm, e_cond, Bool.false_eq_true, if_false, bs0, nod_ints, nd_no, e_appB, ne_eq]; subst hK hQ) | refine Jr.go ?_) | refine sd ?_)
 exact endW ⟨rfl, rfl⟩
def blN (b : Nat) (l : List Int) : V := if l.length = 0 then ints [] .no else .sl b 0 l.length l.length 1
theorem c64 (l : List Int) (H : Hp) (hn : l.length ≤ 1000000) : RetE Try.prog 64 [ints l .no] H (fun v H' => v = blN H.length l ∧ H.length ≤ H'.length ∧ (∀ c, c < H.length → H'[c]? = H[c]?) ∧ (l.length ≠ 0 → H'[H.length]? = some (.cells (l.map I)))) := by
 by_cases h0 : l.length = 0
 ·obtain rfl := List.length_eq_zero_iff.1 h0
  refine RetE.mono (RetE.ofRet (c64n H)) ?_
  rintro v H' ⟨rfl, rfl⟩
  exact ⟨rfl, Nat.le_refl _, fun _ _ => rfl, fun h => absurd rfl h⟩
 ·refine RetE.mono (RetE.ofRet (c64b l H (fun e => h0 (by rw [e]; rfl)) hn)) ?_
  rintro v H' ⟨rfl, rfl⟩
  refine ⟨(if_neg h0).symm, by simp, fun c hc => List.getElem?_append_left hc, fun _ => tail0 _ _⟩
theorem c116 (x : Int) (H : Hp) : Ret Try.prog 116 [I x] H (B (!inB x 0 10000)) H := by
 refine mk116 _ rfl (Nat.le_refl _) (.inl rfl) ?_
 simp only [vc116, real]
 repeat (first | (with_reducible first | refine Ju.go ?_ | (refine Hd.go ?_; intro K Q hK hQ; simp only [nod_imm]; subst hK hQ) | refine Jr.go ?_) | refine sd ?_)
 refine call_of (c55 _ _ _ _) ?_
 repeat (first | (with_reducible first | refine Ju.go ?_ | (refine Hd.go ?_; intro K Q hK hQ; simp only [nod_imm, e_not]; subst hK hQ) | refine Jr.go ?_) | refine sd ?_)
 exact end1 (fzI _)
theorem c99 (x : Int) (H : Hp) : Ret Try.prog 99 [I x] H (B (!inB x 1 1000)) H := by
 refine mk99 _ rfl (Nat.le_refl _) (.inl rfl) ?_
 simp only [vc99, real]
 repeat (first | (with_reducible first | refine Ju.go ?_ | (refine Hd.go ?_; intro K Q hK hQ; simp only [nod_imm]; subst hK hQ) | refine Jr.go ?_) | refine sd ?_)
 refine call_of (c55 _ _ _ _) ?_
 repeat (first | (with_reducible first | refine Ju.go ?_ | (refine Hd.go ?_; intro K Q hK hQ; simp only [nod_imm, e_not]; subst hK hQ) | refine Jr.go ?_) | refine sd ?_)
 exact end1 (fzI _)
theorem any_neg {α : Type} (p : α → Bool) (l : List α) : (l.any fun x => !p x) = !l.all p := by rw [← any_not, Bool.not_not]
theorem c98 (l : List Int) (H : Hp) (hl : l.length ≤ 9223372036854775807) : Ret Try.prog 98 [ints l .no] H (B (!l.all fun x => inB x 0 10000)) H := by
 refine mk98 _ rfl (Nat.le_refl _) (.inl rfl) ?_
 simp only [vc98, real]
 repeat (first | (with_reducible first | refine Ju.go ?_ | (refine Hd.go ?_; intro K Q hK hQ; simp only [nod_ints, nd_no]; subst hK hQ) | refine Jr.go ?_) | refine sd ?_)
 refine call_of (c79 l 116 [] (fun x => !inB x 0 10000) _ hl fun x _ => c116 x _) ?_
 repeat (first | (with_reducible first | refine Ju.go ?_ | (refine Hd.go ?_; intro K Q hK hQ; simp only []; subst hK hQ) | refine Jr.go ?_) | refine sd ?_)
 rw [any_neg]
 exact end1 (fzI _)
def okPh (d l s : List Int) : Bool := decide (d.length ≤ 200) && decide (l.length = d.length) && decide (s.length = d.length) && (d.all fun x => inB x 0 10000) && (l.all fun x => inB x 0 10000) && (s.all fun x => inB x 1 1000)
theorem c69 (d l s : List Int) (H : Hp) (hd : d.length ≤ 9223372036854775807) (hl : l.length ≤ 9223372036854775807) (hs : s.length ≤ 9223372036854775807) : Ret Try.prog 69 [ints d .no, ints l .no, ints s .no] H (B (okPh d l s)) H := by
 refine mk69 _ _ _ rfl (Nat.le_refl _) (.inl rfl) ?_
 simp only [vc69, real]
 repeat (first | (with_reducible first | refine Ju.go ?_ | (refine Hd.go ?_; intro K Q hK hQ; simp only [nod_ints, nd_no, e_len, nod_imm, Try.underlying3, e_leq, e_eql, e_gT, j_and', j_one]; subst hK hQ) | refine Jr.go ?_) | refine sd ?_)
 refine ja_n (c98 d _ hd) ?_
 repeat (first | (with_reducible first | refine Ju.go ?_ | (refine Hd.go ?_; intro K Q hK hQ; simp only [Bool.not_not, nod_imm, nod_ints, nd_no, e_gT]; subst hK hQ) | refine Jr.go ?_) | refine sd ?_)
 refine ja_n (c98 l _ hl) ?_
 repeat (first | (with_reducible first | refine Ju.go ?_ | (refine Hd.go ?_; intro K Q hK hQ; simp only [Bool.not_not, nod_imm, nod_ints, nd_no, e_gT]; subst hK hQ) | refine Jr.go ?_) | refine sd ?_)
 refine ja_n (c79 s 99 [] (fun x => !inB x 1 1000) _ hs fun x _ => c99 x _) ?_
 have e : (decide ((d.length : Int) ≤ 200) && decide ((l.length : Int) = d.length) && decide ((s.length : Int) = d.length) && (d.all fun x => inB x 0 10000) && (l.all fun x => inB x 0 10000) && !(s.any fun x => !inB x 1 1000)) = okPh d l s := by
  unfold okPh
  have a1 : decide ((d.length : Int) ≤ 200) = decide (d.length ≤ 200) := by rw [decide_eq_decide]; omega
  have a2 : decide ((l.length : Int) = d.length) = decide (l.length = d.length) := by rw [decide_eq_decide]; omega
  have a3 : decide ((s.length : Int) = d.length) = decide (s.length = d.length) := by rw [decide_eq_decide]; omega
  rw [a1, a2, a3, any_neg, Bool.not_not]
 rw [e]
 repeat (first | (with_reducible first | refine Ju.go ?_ | (refine Hd.go ?_; intro K Q hK hQ; simp only []; subst hK hQ) | refine Jr.go ?_) | refine sd ?_)
 exact end1 (fzI _)
end Go.Proofs.Ytgicpobploinhaa
set_option maxHeartbeats 4000000
namespace Go.Proofs.Ytgicpobploinhaa
open Go Go.Ab Go.Proofs
def an26 : An := { imm := [9], jn := [(2, [0, 1, 20]), (5, [0, 1]), (12, [0, 7, 9, 32, 33, 34, 39, 40]), (16, [0, 7]), (21, [0, 7, 10, 11, 12])], lp := [(7, [0, 7, 32, 33, 34]), (18, [0, 7, 10, 11])], loud := [], ord := [] }
def vc26 (C : Cb) (a0 a1 : V) (H : Hp) (R : List V → Hp → Prop) : Prop :=
 Jn (fun l1 H2 =>
 aCond (l1.getD 2 .junk).nod (
 R [(V.arr [] .full), (V.arr [] .full), (I 2)] H2) (
 Jn (fun l4 H5 =>
 C.aMkM H5 fun v7 H8 =>
 C.aBd [(V.arr [] .full), (V.arr [] .full), (B false), (B false), (B false), (I 0), (I 0), (I 0), (V.imm (.map none))] [(0, 1, (l4.getD 0 .junk).nod.nod), (1, 1, (l4.getD 1 .junk).nod.nod.nod), (8, 1, v7.nod.nod)] fun v9 =>
 C.aBx false 9 (own0 v9 (l4.getD 0 .junk).nod).nod H8 fun v10 H11 =>
 Jn (fun l12 H13 =>
 C.aBx false 7 (V.agg [(I 0), (I 0), (I 0), (I 0), (I 0), (I 0), (I 0)]) H13 fun v15 H16 =>
 LoopA (fun l17 H18 K19 =>
 C.aFA 0 1 false (l17.getD 3 .junk).nod fun v20 =>
 C.aLd 1 false false v20.nod H18 fun v21 H22 =>
 C.aLen (l17.getD 0 .junk).nod.nod fun v23 =>
 C.aBin (Try.prog.underlying 3) .sub v23.nod (I 1) fun v24 =>
 C.aBin (Try.prog.underlying 3) .lss v21.nod v24.nod fun v25 =>
 aCond v25.nod (
 C.aLd 7 true false (l17.getD 3 .junk).nod H22 fun v26 H27 =>
 C.callE 62 [(l17.getD 1 .junk).nod.nod, v26.nod] H27 fun v28 H29 =>
 C.aFd 1 1 false v28.nod fun v30 =>
 Jn (fun l31 H32 =>
 C.aLd 7 true false (l31.getD 3 .junk).nod H32 fun v34 H35 =>
 C.callE 63 [(l31.getD 1 .junk).nod.nod, v34.nod, (l31.getD 4 .junk).nod.nod] H35 fun v36 H37 =>
 C.aExt 0 v36.nod.nod fun v38 =>
 C.aExt 1 v36.nod.nod fun v39 =>
 C.aSt 7 (l31.getD 3 .junk).nod v39 H37 fun v40 H41 =>
 K19 [(l31.getD 0 .junk), (l31.getD 1 .junk), (l31.getD 2 .junk), (l31.getD 3 .junk)] H41)
 (fun R33 =>
 C.aBS 1 1 (I 0) [(0, v30.nod.nod)] fun v42 =>
 C.aApp 1 8 (l17.getD 2 .junk) v42.nod fun v43 =>
 R33 [(l17.getD 0 .junk), (l17.getD 1 .junk), v43, (l17.getD 3 .junk), v30] H29)) (
 C.aBd [(I 0), (I 0), (I 0), (I 0), (I 0), (I 0), (I 0)] [] fun v44 =>
 C.callE 62 [(l17.getD 1 .junk).nod.nod, v44.nod] H22 fun v45 H46 =>
 C.aFd 0 1 false v45.nod fun v47 =>
 C.callE 64 [v47.nod] H46 fun v48 H49 =>
 R [(l17.getD 2 .junk).nod, v48, (I 0)] H49))
 [(l12.getD 0 .junk), (l12.getD 1 .junk), (V.arr [] .full), v15] H16)
 (fun R14 =>
 C.aLen (l4.getD 1 .junk).nod.nod fun v50 =>
 LoopA (fun l51 H52 K53 =>
 C.aBin (Try.prog.underlying 3) .lss (l51.getD 4 .junk).nod (l51.getD 3 .junk).nod fun v54 =>
 aCond v54.nod (
 C.aIx 3 (l51.getD 2 .junk).nod (l51.getD 4 .junk).nod fun v55 =>
 C.aLd 3 true false v55.nod H52 fun v56 H57 =>
 C.aBx true 3 v56.nod H57 fun v58 H59 =>
 C.aFA 0 1 false v58.nod fun v60 =>
 C.aLd 1 false false v60.nod H59 fun v61 H62 =>
 Jn (fun l63 H64 =>
 aCond (l63.getD 7 .junk).nod (
 C.aFA 1 1 false (l63.getD 2 .junk).nod fun v66 =>
 C.aLd 1 false false v66.nod H64 fun v67 H68 =>
 C.aNC (l63.getD 1 .junk).nod.nod fun v69 =>
 C.aFA 2 3 true v69.nod fun v70 =>
 C.aIxA 3 1 false v70.nod v67.nod fun v71 =>
 C.aSt 1 v71.nod (B true) H68 fun v72 H73 =>
 C.aBin (Try.prog.underlying 3) .add (l63.getD 5 .junk).nod (I 1) fun v74 =>
 K53 [(l63.getD 0 .junk), (l63.getD 1 .junk), (l63.getD 3 .junk), (l63.getD 4 .junk), v74.nod] H73) (
 C.aBin (Try.prog.underlying 96) .eql (l63.getD 6 .junk).nod (I 6) fun v75 =>
 aCond v75.nod (
 C.aFA 1 1 false (l63.getD 2 .junk).nod fun v76 =>
 C.aLd 1 false false v76.nod H64 fun v77 H78 =>
 C.aFA 1 1 false (l63.getD 2 .junk).nod fun v79 =>
 C.aLd 1 false false v79.nod H78 fun v80 H81 =>
 C.aNC (l63.getD 1 .junk).nod.nod fun v82 =>
 C.aFA 5 3 true v82.nod fun v83 =>
 C.aIxA 3 1 false v83.nod v80.nod fun v84 =>
 C.aLd 1 false false v84.nod H81 fun v85 H86 =>
 C.aFA 2 1 false (l63.getD 2 .junk).nod fun v87 =>
 C.aLd 1 false false v87.nod H86 fun v88 H89 =>
 C.aMM true [v85.nod, v88.nod] fun v90 =>
 C.aNC (l63.getD 1 .junk).nod.nod fun v91 =>
 C.aFA 5 3 true v91.nod fun v92 =>
 C.aIxA 3 1 false v92.nod v77.nod fun v93 =>
 C.aSt 1 v93.nod v90 H89 fun v94 H95 =>
 C.aBin (Try.prog.underlying 3) .add (l63.getD 5 .junk).nod (I 1) fun v96 =>
 K53 [(l63.getD 0 .junk), (l63.getD 1 .junk), (l63.getD 3 .junk), (l63.getD 4 .junk), v96.nod] H95) (
 C.aBin (Try.prog.underlying 3) .add (l63.getD 5 .junk).nod (I 1) fun v97 =>
 K53 [(l63.getD 0 .junk), (l63.getD 1 .junk), (l63.getD 3 .junk), (l63.getD 4 .junk), v97.nod] H64)))
 (fun R65 =>
 C.aBin (Try.prog.underlying 96) .eql v61.nod (I 1) fun v98 =>
 aCond v98.nod (
 R65 [(l51.getD 0 .junk), (l51.getD 1 .junk), v58, (l51.getD 2 .junk), (l51.getD 3 .junk), (l51.getD 4 .junk), v61, v98] H62) (
 C.aBin (Try.prog.underlying 96) .eql v61.nod (I 2) fun v99 =>
 R65 [(l51.getD 0 .junk), (l51.getD 1 .junk), v58, (l51.getD 2 .junk), (l51.getD 3 .junk), (l51.getD 4 .junk), v61, v99] H62))) (
 R14 [(l51.getD 0 .junk), (l51.getD 1 .junk)] H52))
 [(l4.getD 0 .junk), v10, (l4.getD 1 .junk).nod, v50, (I 0)] H11))
 (fun R6 =>
 C.aLen (l1.getD 0 .junk).nod.nod fun v100 =>
 C.aBin (Try.prog.underlying 3) .eql v100.nod (I 0) fun v101 =>
 aCond v101.nod (
 C.aBd [(V.arr [] .full), (V.arr [] .full)] [] fun v102 =>
 C.callE 61 [v102.nod, (l1.getD 1 .junk).nod.nod] H2 fun v103 H104 =>
 R [(V.arr [] .full), v103, (I 0)] H104) (
 R6 [(l1.getD 0 .junk), (l1.getD 1 .junk)] H2))))
 (fun R3 =>
 C.callE 59 [a0.nod.nod] H fun v105 H106 =>
 C.aUn .not v105.nod fun v107 =>
 Jv (fun v108 H109 =>
 R3 [a0, a1, v108] H109)
 (fun R110 =>
 aG v107.nod false (
 C.callE 60 [a1.nod.nod] H106 fun v111 H112 =>
 C.aUn .not v111.nod fun v113 =>
 R110 v113.nod H112) (
 R110 (B true) H106)))
theorem wf26 : (Nat.ble 2 Try.f26.ntmps && wfC an26 Try.f26.ntmps (Try.f26.body.getD .skip)) = true := by kernel_rfl
theorem tie26 (C : Cb) (a0 a1 : V) (H : Hp) (R : List V → Hp → Prop) : wpG Try.prog C an26 (Try.f26.body.getD .skip) (argF [a0, a1]) H (retG Try.prog C Try.f26 R) (fun _ _ _ => False) (retG Try.prog C Try.f26 R) = vc26 C a0 a1 H R := by kernel_rfl
theorem mk26 (a0 a1 : V) {H : Hp} {v : V} {H1 : Hp} (hd : v.Nd) (hn : H.length ≤ H1.length) (hb : H1 = H ∨ ∀ (b : Nat) (blk : Blk), H1[b]? = some blk → H[b]? = some blk ∨ BelB H1.length blk) (h : vc26 (real Try.prog) a0 a1 H (retF v H1)) : Ret Try.prog 26 [a0, a1] H v H1 :=
 ret_mk (an := an26) hm Try.call26 Try.func26 rfl wf26 hd hn hb (Eq.mpr (tie26 (real Try.prog) a0 a1 H (retF v H1)) h)
def an62 : An := { imm := [3], jn := [(2, [0, 3, 4, 5, 6]), (7, [0, 3, 4, 7, 8]), (10, [0, 3, 4, 7, 8, 36]), (12, [0, 3, 4, 7, 9]), (14, [0, 3, 4, 7, 8, 9, 10]), (19, [0, 3, 4, 7, 8, 9]), (20, [0, 3, 4, 7, 8, 9, 84]), (21, [0, 3, 4, 7])], lp := [(6, [0, 3, 4, 7, 8]), (15, [0, 3, 4, 7, 8, 9, 61, 62, 63])], loud := [], ord := [(1, [(5, 9)], [[0, 1, 2, 3, 4, 9, 5, 6, 7, 8, 10, 11], [0, 1, 2, 3, 4, 5, 6, 7, 8, 9, 10, 11]])] }
def vc62 (C : Cb) (a0 a1 : V) (H : Hp) (R : List V → Hp → Prop) : Prop :=
 C.aBx true 7 a1.nod H fun v1 H2 =>
 C.aBx false 2 (V.agg [(V.arr [] .full), (I 0)]) H2 fun v3 H4 =>
 Jn (fun l5 H6 =>
 aCond (l5.getD 4 .junk).nod.nod (
 C.aLd 2 true false (l5.getD 3 .junk).nod H6 fun v8 H9 =>
 C.aSt 2 (l5.getD 2 .junk).nod v8 H9 fun v10 H11 =>
 C.aRes 2 true (l5.getD 2 .junk) H11 fun v12 =>
 R [v12] H11) (
 C.aBx false 2 (V.agg [(V.arr [] .full), (I 0)]) H6 fun v13 H14 =>
 Jn (fun l15 H16 =>
 C.aNC (l15.getD 0 .junk).nod.nod fun v18 =>
 C.aFA 8 1 false v18.nod fun v19 =>
 C.aLd 1 false false v19.nod H16 fun v20 H21 =>
 C.aLd 7 true false (l15.getD 1 .junk).nod H21 fun v22 H23 =>
 C.aLd 2 true false (l15.getD 3 .junk).nod H23 fun v24 H25 =>
 C.aUpd 114 v20.nod v22.nod v24.nod H25 fun v26 H27 =>
 C.aLd 2 true false (l15.getD 3 .junk).nod H27 fun v28 H29 =>
 C.aSt 2 (l15.getD 2 .junk).nod v28 H29 fun v30 H31 =>
 C.aRes 2 true (l15.getD 2 .junk) H31 fun v32 =>
 R [v32] H31)
 (fun R17 =>
 LoopA (fun l33 H34 K35 =>
 C.aBin (Try.prog.underlying 3) .leq (l33.getD 4 .junk).nod.nod (I 2) fun v36 =>
 aCond v36.nod (
 Jn (fun l37 H38 =>
 C.aBin (Try.prog.underlying 3) .add (l37.getD 4 .junk).nod.nod (I 1) fun v40 =>
 K35 [(l37.getD 0 .junk), (l37.getD 1 .junk), (l37.getD 2 .junk), (l37.getD 3 .junk), v40] H38)
 (fun R39 =>
 Jn (fun l41 H42 =>
 aCond (l41.getD 5 .junk).nod (
 C.aNC (l41.getD 0 .junk).nod.nod fun v44 =>
 C.aFA 1 1 false v44.nod fun v45 =>
 C.aLd 1 false false v45.nod H42 fun v46 H47 =>
 C.aLen v46.nod fun v48 =>
 C.aMk false (I 0) 8 v48.nod v48.nod H47 fun v49 H50 =>
 Jn (fun l51 H52 =>
 C.aBd [(V.arr [] .full), (I 0)] [(0, 1, (l51.getD 4 .junk).nod.nod), (1, 1, (I 0))] fun v54 =>
 C.aSt 2 (l51.getD 3 .junk).nod (own0 v54 (l51.getD 4 .junk).nod) H52 fun v55 H56 =>
 R17 [(l51.getD 0 .junk), (l51.getD 1 .junk), (l51.getD 2 .junk), (l51.getD 3 .junk)] H56)
 (fun R53 =>
 C.aLd 7 true false (l41.getD 1 .junk).nod H50 fun v57 H58 =>
 C.aFA 0 1 false (l41.getD 1 .junk).nod fun v59 =>
 C.aLd 1 false false v59.nod H58 fun v60 H61 =>
 C.callE 91 [(l41.getD 0 .junk).nod.nod, v49.nod.nod, v57.nod, (I 2), v60.nod] H61 fun v62 H63 =>
 R53 [(l41.getD 0 .junk), (l41.getD 1 .junk), (l41.getD 2 .junk), (l41.getD 3 .junk), v49] H63)) (
 Jn (fun l64 H65 =>
 Jn (fun l67 H68 =>
 Jn (fun l70 H71 =>
 aCond (l70.getD 6 .junk).nod (
 C.aBd [(V.arr [] .full), (I 0)] [(0, 1, (l70.getD 5 .junk).nod.nod), (1, 1, (l70.getD 4 .junk).nod.nod.nod)] fun v73 =>
 C.aSt 2 (l70.getD 3 .junk).nod (own0 v73 (l70.getD 5 .junk).nod) H71 fun v74 H75 =>
 R39 [(l70.getD 0 .junk), (l70.getD 1 .junk), (l70.getD 2 .junk), (l70.getD 3 .junk), (l70.getD 4 .junk)] H75) (
 R39 [(l70.getD 0 .junk), (l70.getD 1 .junk), (l70.getD 2 .junk), (l70.getD 3 .junk), (l70.getD 4 .junk)] H71))
 (fun R72 =>
 C.aBin (Try.prog.underlying 3) .eql (l67.getD 4 .junk).nod.nod (I 0) fun v76 =>
 Jv (fun v77 H78 =>
 R72 [(l67.getD 0 .junk), (l67.getD 1 .junk), (l67.getD 2 .junk), (l67.getD 3 .junk), (l67.getD 4 .junk), (l67.getD 5 .junk), v77] H78)
 (fun R79 =>
 aG v76.nod false (
 C.aFA 0 1 false (l67.getD 3 .junk).nod fun v80 =>
 C.aLd 1 false false v80.nod H68 fun v81 H82 =>
 C.callE 92 [(l67.getD 5 .junk).nod.nod, v81.nod] H82 fun v83 H84 =>
 C.aBin (Try.prog.underlying 3) .lss v83.nod (I 0) fun v85 =>
 R79 v85.nod H84) (
 R79 (B true) H68))))
 (fun R69 =>
 C.aLd 7 true false (l64.getD 6 .junk).nod H65 fun v86 H87 =>
 C.callE 62 [(l64.getD 0 .junk).nod.nod, v86.nod] H87 fun v88 H89 =>
 C.aFd 0 1 false v88.nod fun v90 =>
 C.aLen v90.nod fun v91 =>
 LoopA (fun l92 H93 K94 =>
 C.aBin (Try.prog.underlying 3) .lss (l92.getD 8 .junk).nod (l92.getD 7 .junk).nod fun v95 =>
 aCond v95.nod (
 C.aIx 1 (l92.getD 6 .junk).nod (l92.getD 8 .junk).nod fun v96 =>
 C.aLd 1 false false v96.nod H93 fun v97 H98 =>
 C.aIx 1 (l92.getD 5 .junk).nod.nod (l92.getD 8 .junk).nod.nod.nod fun v99 =>
 C.aLd 1 false false v99.nod H98 fun v100 H101 =>
 C.aBin (Try.prog.underlying 3) .add v100.nod v97.nod.nod fun v102 =>
 C.aIx 1 (l92.getD 5 .junk).nod.nod (l92.getD 8 .junk).nod.nod.nod fun v103 =>
 C.aSt 1 v103.nod v102 H101 fun v104 H105 =>
 C.aBin (Try.prog.underlying 3) .add (l92.getD 8 .junk).nod (I 1) fun v106 =>
 K94 [(l92.getD 0 .junk), (l92.getD 1 .junk), (l92.getD 2 .junk), (l92.getD 3 .junk), (l92.getD 4 .junk), (l92.getD 5 .junk), (l92.getD 6 .junk), (l92.getD 7 .junk), v106.nod] H105) (
 R69 [(l92.getD 0 .junk), (l92.getD 1 .junk), (l92.getD 2 .junk), (l92.getD 3 .junk), (l92.getD 4 .junk), (l92.getD 5 .junk)] H93))
 [(l64.getD 0 .junk), (l64.getD 1 .junk), (l64.getD 2 .junk), (l64.getD 3 .junk), (l64.getD 4 .junk), (l64.getD 5 .junk), v90, v91, (I 0)] H89))
 (fun R66 =>
 C.aLd 7 true false (l41.getD 1 .junk).nod H42 fun v107 H108 =>
 C.callE 63 [(l41.getD 0 .junk).nod.nod, v107.nod, (l41.getD 4 .junk).nod.nod] H108 fun v109 H110 =>
 C.aExt 0 v109.nod.nod fun v111 =>
 C.aExt 1 v109.nod.nod fun v112 =>
 C.aBx false 7 (V.agg [(I 0), (I 0), (I 0), (I 0), (I 0), (I 0), (I 0)]) H110 fun v113 H114 =>
 C.aSt 7 v113.nod v112 H114 fun v115 H116 =>
 R66 [(l41.getD 0 .junk), (l41.getD 1 .junk), (l41.getD 2 .junk), (l41.getD 3 .junk), (l41.getD 4 .junk), v111, v113] H116)))
 (fun R43 =>
 C.aFA 0 1 false (l33.getD 1 .junk).nod fun v117 =>
 C.aLd 1 false false v117.nod H34 fun v118 H119 =>
 C.aNC (l33.getD 0 .junk).nod.nod fun v120 =>
 C.aFA 0 1 false v120.nod fun v121 =>
 C.aLd 1 false false v121.nod H119 fun v122 H123 =>
 C.aLen v122.nod fun v124 =>
 C.aBin (Try.prog.underlying 3) .sub v124.nod (I 1) fun v125 =>
 C.aBin (Try.prog.underlying 3) .eql v118.nod v125.nod fun v126 =>
 R43 [(l33.getD 0 .junk), (l33.getD 1 .junk), (l33.getD 2 .junk), (l33.getD 3 .junk), (l33.getD 4 .junk), v126] H123))) (
 R17 [(l33.getD 0 .junk), (l33.getD 1 .junk), (l33.getD 2 .junk), (l33.getD 3 .junk)] H34))
 [(l5.getD 0 .junk), (l5.getD 1 .junk), (l5.getD 2 .junk), v13, (I 0)] H14)))
 (fun R7 =>
 (C.aNC a0.nod.nod fun v127 =>
 C.aFA 8 1 false v127.nod fun v128 =>
 C.aLd 1 false false v128.nod H4 fun v129 H130 =>
 C.aLd 7 true false v1.nod H130 fun v131 H132 =>
 C.aBx false 2 (V.agg [(V.arr [] .full), (I 0)]) H132 fun v133 H134 =>
 C.aLkp 114 (V.agg [(V.arr [] .full), (I 0)]) true v129.nod v131.nod H134 fun v135 =>
 C.aExt 0 v135.nod.nod fun v136 =>
 C.aExt 1 v135.nod.nod fun v137 =>
 C.aSt 2 v133.nod v136 H134 fun v138 H139 =>
 R7 [a0, v1, v3, v133, v137] H139) ∧ (C.aNC a0.nod.nod fun v140 =>
 C.aFA 8 1 false v140.nod fun v141 =>
 C.aLd 1 false false v141.nod H4 fun v142 H143 =>
 C.aLd 7 true false v1.nod H143 fun v144 H145 =>
 C.aLkp 114 (V.agg [(V.arr [] .full), (I 0)]) true v142.nod v144.nod H145 fun v146 =>
 C.aExt 0 v146.nod.nod fun v147 =>
 C.aExt 1 v146.nod.nod fun v148 =>
 C.aBx false 2 (V.agg [(V.arr [] .full), (I 0)]) H145 fun v149 H150 =>
 C.aSt 2 v149.nod v147 H150 fun v151 H152 =>
 R7 [a0, v1, v3, v149, v148] H152))
theorem wf62 : (Nat.ble 2 Try.f62.ntmps && wfC an62 Try.f62.ntmps (Try.f62.body.getD .skip)) = true := by kernel_rfl
theorem tie62 (C : Cb) (a0 a1 : V) (H : Hp) (R : List V → Hp → Prop) : wpG Try.prog C an62 (Try.f62.body.getD .skip) (argF [a0, a1]) H (retG Try.prog C Try.f62 R) (fun _ _ _ => False) (retG Try.prog C Try.f62 R) = vc62 C a0 a1 H R := by kernel_rfl
theorem mkE62 (a0 a1 : V) {H : Hp} {Q : V → Hp → Prop} (h : vc62 (real Try.prog) a0 a1 H (retW Q)) : RetE Try.prog 62 [a0, a1] H Q :=
 retE_mk (an := an62) hm Try.call62 Try.func62 rfl wf62 (Eq.mpr (tie62 (real Try.prog) a0 a1 H (retW Q)) h)
def an63 : An := { imm := [4], jn := [(3, [0, 2, 4, 7, 8, 9]), (9, [0, 2, 4, 7, 8, 9, 10, 11, 12, 32, 33, 34, 40, 41]), (16, [0, 2, 4, 7, 8, 9, 10, 12, 32, 33, 34]), (20, [0, 2, 4, 7, 8]), (24, [0, 2, 4, 7, 8, 13, 14]), (27, [0, 2, 4, 7, 8, 13, 14])], lp := [(4, [0, 2, 4, 7, 8, 9, 32, 33, 34]), (23, [0, 2, 4, 7, 8, 13, 14])], loud := [], ord := [] }
def vc63 (C : Cb) (a0 a1 a2 : V) (H : Hp) (R : List V → Hp → Prop) : Prop :=
 C.aBx true 7 a1.nod H fun v1 H2 =>
 C.aBx false 7 (V.agg [(I 0), (I 0), (I 0), (I 0), (I 0), (I 0), (I 0)]) H2 fun v3 H4 =>
 C.aNC a0.nod.nod fun v5 =>
 C.aFA 1 1 false v5.nod fun v6 =>
 C.aLd 1 false false v6.nod H4 fun v7 H8 =>
 C.aLen v7.nod fun v9 =>
 C.aMk false (I 0) 8 v9.nod v9.nod H8 fun v10 H11 =>
 Jn (fun l12 H13 =>
 C.aNC (l12.getD 0 .junk).nod.nod fun v15 =>
 C.aFA 1 1 false v15.nod fun v16 =>
 C.aLd 1 false false v16.nod H13 fun v17 H18 =>
 C.aLen v17.nod fun v19 =>
 LoopA (fun l20 H21 K22 =>
 C.aBin (Try.prog.underlying 3) .lss (l20.getD 8 .junk).nod (l20.getD 7 .junk).nod fun v23 =>
 aCond v23.nod (
 C.aIx 3 (l20.getD 6 .junk).nod (l20.getD 8 .junk).nod fun v24 =>
 C.aLd 3 true false v24.nod H21 fun v25 H26 =>
 C.aBx false 3 (V.agg [(I 0), (I 0), (I 0)]) H26 fun v27 H28 =>
 C.aSt 3 v27.nod v25 H28 fun v29 H30 =>
 Jn (fun l31 H32 =>
 aCond (l31.getD 7 .junk).nod.nod (
 C.aIx 1 (l31.getD 4 .junk).nod.nod (l31.getD 6 .junk).nod.nod fun v34 =>
 C.aLd 1 false false v34.nod H32 fun v35 H36 =>
 C.aBin (Try.prog.underlying 3) .add v35.nod (I 1) fun v37 =>
 C.aIx 1 (l31.getD 4 .junk).nod.nod (l31.getD 6 .junk).nod.nod fun v38 =>
 C.aSt 1 v38.nod v37 H36 fun v39 H40 =>
 C.aBin (Try.prog.underlying 3) .add (l31.getD 10 .junk).nod (I 1) fun v41 =>
 K22 [(l31.getD 0 .junk), (l31.getD 1 .junk), (l31.getD 2 .junk), (l31.getD 3 .junk), (l31.getD 4 .junk), (l31.getD 5 .junk), (l31.getD 8 .junk), (l31.getD 9 .junk), v41.nod] H40) (
 C.aBin (Try.prog.underlying 3) .add (l31.getD 10 .junk).nod (I 1) fun v42 =>
 K22 [(l31.getD 0 .junk), (l31.getD 1 .junk), (l31.getD 2 .junk), (l31.getD 3 .junk), (l31.getD 4 .junk), (l31.getD 5 .junk), (l31.getD 8 .junk), (l31.getD 9 .junk), v42.nod] H32))
 (fun R33 =>
 C.aFA 0 1 false v27.nod fun v43 =>
 C.aLd 1 false false v43.nod H30 fun v44 H45 =>
 Jn (fun l46 H47 =>
 aCond (l46.getD 13 .junk).nod (
 C.aFA 1 1 false (l46.getD 7 .junk).nod fun v49 =>
 C.aLd 1 false false v49.nod H47 fun v50 H51 =>
 C.aBin (Try.prog.underlying 3) .geq (l46.getD 1 .junk).nod.nod v50.nod fun v52 =>
 Jv (fun v53 H54 =>
 R33 [(l46.getD 0 .junk), (l46.getD 1 .junk), (l46.getD 2 .junk), (l46.getD 3 .junk), (l46.getD 4 .junk), (l46.getD 5 .junk), (l46.getD 6 .junk), v53, (l46.getD 9 .junk), (l46.getD 10 .junk), (l46.getD 11 .junk)] H54)
 (fun R55 =>
 aG v52.nod true (
 C.aFA 2 1 false (l46.getD 5 .junk).nod fun v56 =>
 C.aLd 1 false false v56.nod H51 fun v57 H58 =>
 C.aFA 2 1 false (l46.getD 7 .junk).nod fun v59 =>
 C.aLd 1 false false v59.nod H58 fun v60 H61 =>
 C.aBin (Try.prog.underlying 3) .lss v57.nod v60.nod fun v62 =>
 R55 v62.nod H61) (
 R55 (B false) H51))) (
 C.aBin (Try.prog.underlying 96) .eql (l46.getD 12 .junk).nod (I 4) fun v63 =>
 aCond v63.nod (
 C.aFA 1 1 false (l46.getD 7 .junk).nod fun v64 =>
 C.aLd 1 false false v64.nod H47 fun v65 H66 =>
 C.aBin (Try.prog.underlying 3) .lss (l46.getD 1 .junk).nod.nod v65.nod fun v67 =>
 Jv (fun v68 H69 =>
 R33 [(l46.getD 0 .junk), (l46.getD 1 .junk), (l46.getD 2 .junk), (l46.getD 3 .junk), (l46.getD 4 .junk), (l46.getD 5 .junk), (l46.getD 6 .junk), v68, (l46.getD 9 .junk), (l46.getD 10 .junk), (l46.getD 11 .junk)] H69)
 (fun R70 =>
 aG v67.nod true (
 C.aFA 2 1 false (l46.getD 5 .junk).nod fun v71 =>
 C.aLd 1 false false v71.nod H66 fun v72 H73 =>
 C.aFA 2 1 false (l46.getD 7 .junk).nod fun v74 =>
 C.aLd 1 false false v74.nod H73 fun v75 H76 =>
 C.aBin (Try.prog.underlying 3) .geq v72.nod v75.nod fun v77 =>
 R70 v77.nod H76) (
 R70 (B false) H66))) (
 C.aBin (Try.prog.underlying 96) .eql (l46.getD 12 .junk).nod (I 5) fun v78 =>
 aCond v78.nod (
 C.aFA 1 1 false (l46.getD 7 .junk).nod fun v79 =>
 C.aLd 1 false false v79.nod H47 fun v80 H81 =>
 C.aBin (Try.prog.underlying 3) .lss (l46.getD 1 .junk).nod.nod v80.nod fun v82 =>
 Jv (fun v83 H84 =>
 R33 [(l46.getD 0 .junk), (l46.getD 1 .junk), (l46.getD 2 .junk), (l46.getD 3 .junk), (l46.getD 4 .junk), (l46.getD 5 .junk), (l46.getD 6 .junk), v83, (l46.getD 9 .junk), (l46.getD 10 .junk), (l46.getD 11 .junk)] H84)
 (fun R85 =>
 aG v82.nod true (
 C.aFA 3 1 false (l46.getD 5 .junk).nod fun v86 =>
 C.aLd 1 false false v86.nod H81 fun v87 H88 =>
 R85 v87.nod H88) (
 R85 (B false) H81))) (
 C.aBin (Try.prog.underlying 96) .eql (l46.getD 12 .junk).nod (I 6) fun v89 =>
 aCond v89.nod (
 C.aFA 1 1 false (l46.getD 7 .junk).nod fun v90 =>
 C.aLd 1 false false v90.nod H47 fun v91 H92 =>
 C.aBin (Try.prog.underlying 3) .geq (l46.getD 1 .junk).nod.nod v91.nod fun v93 =>
 Jv (fun v94 H95 =>
 R33 [(l46.getD 0 .junk), (l46.getD 1 .junk), (l46.getD 2 .junk), (l46.getD 3 .junk), (l46.getD 4 .junk), (l46.getD 5 .junk), (l46.getD 6 .junk), v94, (l46.getD 9 .junk), (l46.getD 10 .junk), (l46.getD 11 .junk)] H95)
 (fun R96 =>
 aG v93.nod true (
 C.aFA 1 1 false (l46.getD 7 .junk).nod fun v97 =>
 C.aLd 1 false false v97.nod H92 fun v98 H99 =>
 C.aFA 4 3 true (l46.getD 2 .junk).nod fun v100 =>
 C.aIxA 3 1 false v100.nod v98.nod fun v101 =>
 C.aLd 1 false false v101.nod H99 fun v102 H103 =>
 C.aFA 2 1 false (l46.getD 7 .junk).nod fun v104 =>
 C.aLd 1 false false v104.nod H103 fun v105 H106 =>
 C.aBin (Try.prog.underlying 3) .geq v102.nod v105.nod fun v107 =>
 R96 v107.nod H106) (
 R96 (B false) H92))) (
 R33 [(l46.getD 0 .junk), (l46.getD 1 .junk), (l46.getD 2 .junk), (l46.getD 3 .junk), (l46.getD 4 .junk), (l46.getD 5 .junk), (l46.getD 6 .junk), (l46.getD 8 .junk), (l46.getD 9 .junk), (l46.getD 10 .junk), (l46.getD 11 .junk)] H47)))))
 (fun R48 =>
 C.aBin (Try.prog.underlying 96) .eql v44.nod (I 3) fun v108 =>
 R48 [(l20.getD 0 .junk), (l20.getD 1 .junk), (l20.getD 2 .junk), (l20.getD 3 .junk), (l20.getD 4 .junk), (l20.getD 5 .junk), (l20.getD 8 .junk).nod, v27, (B false), (l20.getD 6 .junk), (l20.getD 7 .junk), (l20.getD 8 .junk), v44, v108] H45))) (
 Jn (fun l109 H110 =>
 C.aLd 7 true false (l109.getD 2 .junk).nod H110 fun v112 H113 =>
 C.aBx false 7 (V.agg [(I 0), (I 0), (I 0), (I 0), (I 0), (I 0), (I 0)]) H113 fun v114 H115 =>
 C.aSt 7 v114.nod v112 H115 fun v116 H117 =>
 C.aFA 0 1 false v114.nod fun v118 =>
 C.aLd 1 false false v118.nod H117 fun v119 H120 =>
 C.aBin (Try.prog.underlying 3) .add v119.nod (I 1) fun v121 =>
 C.aFA 0 1 false v114.nod fun v122 =>
 C.aSt 1 v122.nod v121 H120 fun v123 H124 =>
 LoopA (fun l125 H126 K127 =>
 C.aBin (Try.prog.underlying 3) .leq (l125.getD 6 .junk).nod.nod (l125.getD 1 .junk).nod.nod fun v128 =>
 aCond v128.nod (
 Jn (fun l129 H130 =>
 C.aBin (Try.prog.underlying 3) .add (l129.getD 6 .junk).nod.nod (I 1) fun v132 =>
 K127 [(l129.getD 0 .junk), (l129.getD 1 .junk), (l129.getD 2 .junk), (l129.getD 3 .junk), (l129.getD 4 .junk), (l129.getD 5 .junk), v132] H130)
 (fun R131 =>
 Jn (fun l133 H134 =>
 C.aFA 4 3 true (l133.getD 2 .junk).nod fun v136 =>
 C.aIxA 3 1 false v136.nod (l133.getD 6 .junk).nod.nod fun v137 =>
 C.aLd 1 false false v137.nod H134 fun v138 H139 =>
 C.aBin (Try.prog.underlying 3) .add v138.nod (I 1) fun v140 =>
 C.aNC (l133.getD 0 .junk).nod.nod fun v141 =>
 C.aFA 5 3 true v141.nod fun v142 =>
 C.aIxA 3 1 false v142.nod (l133.getD 6 .junk).nod.nod fun v143 =>
 C.aLd 1 false false v143.nod H139 fun v144 H145 =>
 C.aMM false [v140.nod, v144.nod] fun v146 =>
 C.aFA 4 3 true (l133.getD 5 .junk).nod fun v147 =>
 C.aIxA 3 1 false v147.nod (l133.getD 6 .junk).nod.nod fun v148 =>
 C.aSt 1 v148.nod v146 H145 fun v149 H150 =>
 R131 [(l133.getD 0 .junk), (l133.getD 1 .junk), (l133.getD 2 .junk), (l133.getD 3 .junk), (l133.getD 4 .junk), (l133.getD 5 .junk), (l133.getD 6 .junk)] H150)
 (fun R135 =>
 C.aNC (l125.getD 0 .junk).nod.nod fun v151 =>
 C.aFA 2 3 true v151.nod fun v152 =>
 C.aIxA 3 1 false v152.nod (l125.getD 6 .junk).nod.nod fun v153 =>
 C.aLd 1 false false v153.nod H126 fun v154 H155 =>
 aCond v154.nod (
 C.aFA 0 1 false (l125.getD 2 .junk).nod fun v156 =>
 C.aLd 1 false false v156.nod H155 fun v157 H158 =>
 C.aBin (Try.prog.underlying 3) .add v157.nod (I 1) fun v159 =>
 C.aFA 1 3 true (l125.getD 5 .junk).nod fun v160 =>
 C.aIxA 3 1 false v160.nod (l125.getD 6 .junk).nod.nod fun v161 =>
 C.aSt 1 v161.nod v159 H158 fun v162 H163 =>
 R135 [(l125.getD 0 .junk), (l125.getD 1 .junk), (l125.getD 2 .junk), (l125.getD 3 .junk), (l125.getD 4 .junk), (l125.getD 5 .junk), (l125.getD 6 .junk)] H163) (
 R135 [(l125.getD 0 .junk), (l125.getD 1 .junk), (l125.getD 2 .junk), (l125.getD 3 .junk), (l125.getD 4 .junk), (l125.getD 5 .junk), (l125.getD 6 .junk)] H155)))) (
 C.aLd 7 true false (l125.getD 5 .junk).nod H126 fun v164 H165 =>
 C.aSt 7 (l125.getD 3 .junk).nod v164 H165 fun v166 H167 =>
 C.aRes 7 true (l125.getD 3 .junk) H167 fun v168 =>
 R [(l125.getD 4 .junk).nod, v168] H167))
 [(l109.getD 0 .junk), (l109.getD 1 .junk), (l109.getD 2 .junk), (l109.getD 3 .junk), (l109.getD 4 .junk), v114, (I 1)] H124)
 (fun R111 =>
 C.aLd 7 true false (l20.getD 2 .junk).nod H21 fun v169 H170 =>
 C.aFA 0 1 false (l20.getD 2 .junk).nod fun v171 =>
 C.aLd 1 false false v171.nod H170 fun v172 H173 =>
 C.callE 91 [(l20.getD 0 .junk).nod.nod, (l20.getD 4 .junk).nod.nod, v169.nod, (l20.getD 1 .junk).nod.nod, v172.nod] H173 fun v174 H175 =>
 R111 [(l20.getD 0 .junk), (l20.getD 1 .junk), (l20.getD 2 .junk), (l20.getD 3 .junk), (l20.getD 4 .junk)] H175)))
 [(l12.getD 0 .junk), (l12.getD 1 .junk), (l12.getD 2 .junk), (l12.getD 3 .junk), (l12.getD 4 .junk), (l12.getD 5 .junk), v17, v19, (I 0)] H18)
 (fun R14 =>
 C.aNC a0.nod.nod fun v176 =>
 C.aFA 0 1 false v176.nod fun v177 =>
 C.aLd 1 false false v177.nod H11 fun v178 H179 =>
 C.aFA 0 1 false v1.nod fun v180 =>
 C.aLd 1 false false v180.nod H179 fun v181 H182 =>
 C.aIx 5 v178.nod v181.nod fun v183 =>
 C.aLd 5 true false v183.nod H182 fun v184 H185 =>
 C.aBx false 5 (V.agg [(I 0), (I 0), (I 0), (B false), (B false)]) H185 fun v186 H187 =>
 C.aSt 5 v186.nod v184 H187 fun v188 H189 =>
 R14 [a0, a2, v1, v3, v10, v186] H189)
theorem wf63 : (Nat.ble 3 Try.f63.ntmps && wfC an63 Try.f63.ntmps (Try.f63.body.getD .skip)) = true := by kernel_rfl
theorem tie63 (C : Cb) (a0 a1 a2 : V) (H : Hp) (R : List V → Hp → Prop) : wpG Try.prog C an63 (Try.f63.body.getD .skip) (argF [a0, a1, a2]) H (retG Try.prog C Try.f63 R) (fun _ _ _ => False) (retG Try.prog C Try.f63 R) = vc63 C a0 a1 a2 H R := by kernel_rfl
theorem mkE63 (a0 a1 a2 : V) {H : Hp} {Q : V → Hp → Prop} (h : vc63 (real Try.prog) a0 a1 a2 H (retW Q)) : RetE Try.prog 63 [a0, a1, a2] H Q :=
 retE_mk (an := an63) hm Try.call63 Try.func63 rfl wf63 (Eq.mpr (tie63 (real Try.prog) a0 a1 a2 H (retW Q)) h)
def an91 : An := { imm := [7], jn := [(5, [0, 1, 3, 4, 7, 10, 11, 16, 17, 18]), (6, [0, 1, 3, 4, 7, 10, 11, 12, 16, 17, 18])], lp := [(2, [0, 1, 3, 4, 7, 16, 17, 18])], loud := [49], ord := [] }
def vc91 (C : Cb) (a0 a1 a2 a3 a4 : V) (H : Hp) (R : List V → Hp → Prop) : Prop :=
 C.aBx true 7 a2.nod H fun v1 H2 =>
 C.aNC a0.nod.nod fun v3 =>
 C.aFA 1 1 false v3.nod fun v4 =>
 C.aLd 1 false false v4.nod H2 fun v5 H6 =>
 C.aLen v5.nod fun v7 =>
 LoopA (fun l8 H9 K10 =>
 C.aBin (Try.prog.underlying 3) .lss (l8.getD 7 .junk).nod (l8.getD 6 .junk).nod fun v11 =>
 aCond v11.nod (
 C.aIx 3 (l8.getD 5 .junk).nod (l8.getD 7 .junk).nod fun v12 =>
 C.aLd 3 true false v12.nod H9 fun v13 H14 =>
 C.aBx false 3 (V.agg [(I 0), (I 0), (I 0)]) H14 fun v15 H16 =>
 C.aSt 3 v15.nod v13 H16 fun v17 H18 =>
 Jn (fun l19 H20 =>
 Jn (fun l22 H23 =>
 C.aFA 0 1 false (l22.getD 6 .junk).nod fun v25 =>
 C.aLd 1 false false v25.nod H23 fun v26 H27 =>
 C.aBin (Try.prog.underlying 96) .eql v26.nod (I 1) fun v28 =>
 aCond v28.nod (
 C.aIx 1 (l22.getD 1 .junk).nod.nod (l22.getD 5 .junk).nod.nod fun v29 =>
 C.aLd 1 false false v29.nod H27 fun v30 H31 =>
 C.aFA 2 1 false (l22.getD 6 .junk).nod fun v32 =>
 C.aLd 1 false false v32.nod H31 fun v33 H34 =>
 C.aBin (Try.prog.underlying 3) .sub (l22.getD 7 .junk).nod.nod v33.nod fun v35 =>
 C.aMM true [(I 0), v35.nod] fun v36 =>
 C.aBin (Try.prog.underlying 3) .add v30.nod v36.nod fun v37 =>
 C.aIx 1 (l22.getD 1 .junk).nod.nod (l22.getD 5 .junk).nod.nod fun v38 =>
 C.aSt 1 v38.nod v37 H34 fun v39 H40 =>
 C.aBin (Try.prog.underlying 3) .add (l22.getD 10 .junk).nod (I 1) fun v41 =>
 K10 [(l22.getD 0 .junk), (l22.getD 1 .junk), (l22.getD 2 .junk), (l22.getD 3 .junk), (l22.getD 4 .junk), (l22.getD 8 .junk), (l22.getD 9 .junk), v41.nod] H40) (
 C.aIx 1 (l22.getD 1 .junk).nod.nod (l22.getD 5 .junk).nod.nod fun v42 =>
 C.aLd 1 false false v42.nod H27 fun v43 H44 =>
 C.aFA 2 1 false (l22.getD 6 .junk).nod fun v45 =>
 C.aLd 1 false false v45.nod H44 fun v46 H47 =>
 C.aBin (Try.prog.underlying 3) .sub v46.nod (l22.getD 7 .junk).nod.nod fun v48 =>
 C.aMM true [(I 0), v48.nod] fun v49 =>
 C.aBin (Try.prog.underlying 3) .add v43.nod v49.nod fun v50 =>
 C.aIx 1 (l22.getD 1 .junk).nod.nod (l22.getD 5 .junk).nod.nod fun v51 =>
 C.aSt 1 v51.nod v50 H47 fun v52 H53 =>
 C.aBin (Try.prog.underlying 3) .add (l22.getD 10 .junk).nod (I 1) fun v54 =>
 K10 [(l22.getD 0 .junk), (l22.getD 1 .junk), (l22.getD 2 .junk), (l22.getD 3 .junk), (l22.getD 4 .junk), (l22.getD 8 .junk), (l22.getD 9 .junk), v54.nod] H53))
 (fun R24 =>
 C.aNC (l19.getD 0 .junk).nod.nod fun v55 =>
 C.aFA 0 1 false v55.nod fun v56 =>
 C.aLd 1 false false v56.nod H20 fun v57 H58 =>
 C.aFA 1 1 false (l19.getD 6 .junk).nod fun v59 =>
 C.aLd 1 false false v59.nod H58 fun v60 H61 =>
 C.aFA 1 3 true (l19.getD 4 .junk).nod fun v62 =>
 C.aIxA 3 1 false v62.nod v60.nod fun v63 =>
 C.aLd 1 false false v63.nod H61 fun v64 H65 =>
 C.aBin (Try.prog.underlying 3) .add (l19.getD 3 .junk).nod.nod (I 1) fun v66 =>
 C.aSlc 5 v57.nod (some v64.nod) (some v66.nod) none fun v67 =>
 C.call 114 [v67.nod] H65 fun v68 H69 =>
 R24 [(l19.getD 0 .junk), (l19.getD 1 .junk), (l19.getD 2 .junk), (l19.getD 3 .junk), (l19.getD 4 .junk), (l19.getD 5 .junk), (l19.getD 6 .junk), v68, (l19.getD 7 .junk), (l19.getD 8 .junk), (l19.getD 9 .junk)] H69))
 (fun R21 =>
 C.aFA 1 1 false v15.nod fun v70 =>
 C.aLd 1 false false v70.nod H18 fun v71 H72 =>
 C.aBin (Try.prog.underlying 3) .gtr v71.nod (l8.getD 2 .junk).nod.nod fun v73 =>
 Jv (fun v74 H75 =>
 aCond v74.nod (
 C.aBin (Try.prog.underlying 3) .add (l8.getD 7 .junk).nod (I 1) fun v85 =>
 K10 [(l8.getD 0 .junk), (l8.getD 1 .junk), (l8.getD 2 .junk), (l8.getD 3 .junk), (l8.getD 4 .junk), (l8.getD 5 .junk), (l8.getD 6 .junk), v85.nod] H75) (
 R21 [(l8.getD 0 .junk), (l8.getD 1 .junk), (l8.getD 2 .junk), (l8.getD 3 .junk), (l8.getD 4 .junk), (l8.getD 7 .junk).nod, v15, (l8.getD 5 .junk), (l8.getD 6 .junk), (l8.getD 7 .junk)] H75))
 (fun R76 =>
 aG v73.nod false (
 C.aFA 0 1 false v15.nod fun v77 =>
 C.aLd 1 false false v77.nod H72 fun v78 H79 =>
 C.aBin (Try.prog.underlying 96) .neq v78.nod (I 1) fun v80 =>
 aG v80.nod true (
 C.aFA 0 1 false v15.nod fun v81 =>
 C.aLd 1 false false v81.nod H79 fun v82 H83 =>
 C.aBin (Try.prog.underlying 96) .neq v82.nod (I 2) fun v84 =>
 R76 v84.nod.nod H83) (
 R76 (B false) H79)) (
 UD = UD ∧
 UD = UD ∧
 UD = UD ∧
 R76 (B true) H72)))) (
 R [] H9))
 [a0, a1, a3, a4, v1, v5, v7, (I 0)] H6
theorem wf91 : (Nat.ble 5 Try.f91.ntmps && wfC an91 Try.f91.ntmps (Try.f91.body.getD .skip)) = true := by kernel_rfl
theorem tie91 (C : Cb) (a0 a1 a2 a3 a4 : V) (H : Hp) (R : List V → Hp → Prop) : wpG Try.prog C an91 (Try.f91.body.getD .skip) (argF [a0, a1, a2, a3, a4]) H (retG Try.prog C Try.f91 R) (fun _ _ _ => False) (retG Try.prog C Try.f91 R) = vc91 C a0 a1 a2 a3 a4 H R := by kernel_rfl
theorem mkE91 (a0 a1 a2 a3 a4 : V) {H : Hp} {Q : V → Hp → Prop} (h : vc91 (real Try.prog) a0 a1 a2 a3 a4 H (retW Q)) : RetE Try.prog 91 [a0, a1, a2, a3, a4] H Q :=
 retE_mk (an := an91) hm Try.call91 Try.func91 rfl wf91 (Eq.mpr (tie91 (real Try.prog) a0 a1 a2 a3 a4 H (retW Q)) h)
def an92 : An := { imm := [], jn := [(7, [0, 1, 6, 7, 9, 10, 11]), (12, [35])], lp := [(2, [0, 1, 9, 10, 11])], loud := [], ord := [] }
def vc92 (C : Cb) (a0 a1 : V) (H : Hp) (R : List V → Hp → Prop) : Prop :=
 C.aLen a0.nod.nod fun v1 =>
 LoopA (fun l2 H3 K4 =>
 C.aBin (Try.prog.underlying 3) .lss (l2.getD 4 .junk).nod (l2.getD 3 .junk).nod fun v5 =>
 aCond v5.nod (
 C.aIx 1 (l2.getD 2 .junk).nod (l2.getD 4 .junk).nod fun v6 =>
 C.aLd 1 false false v6.nod H3 fun v7 H8 =>
 C.aLen (l2.getD 1 .junk).nod.nod fun v9 =>
 C.aBin (Try.prog.underlying 3) .geq (l2.getD 4 .junk).nod.nod.nod v9.nod fun v10 =>
 aCond v10.nod (
 R [(I 1)] H8) (
 Jn (fun l11 H12 =>
 C.callE 115 [(l11.getD 2 .junk).nod.nod, (l11.getD 3 .junk).nod.nod] H12 fun v14 H15 =>
 C.aBin (Try.prog.underlying 3) .neq v14.nod.nod (I 0) fun v16 =>
 aCond v16.nod (
 R [v14.nod] H15) (
 C.aBin (Try.prog.underlying 3) .add (l11.getD 6 .junk).nod (I 1) fun v17 =>
 K4 [(l11.getD 0 .junk), (l11.getD 1 .junk), (l11.getD 4 .junk), (l11.getD 5 .junk), v17.nod] H15))
 (fun R13 =>
 C.aIx 1 (l2.getD 1 .junk).nod.nod (l2.getD 4 .junk).nod.nod.nod fun v18 =>
 C.aLd 1 false false v18.nod H8 fun v19 H20 =>
 R13 [(l2.getD 0 .junk), (l2.getD 1 .junk), v7, v19, (l2.getD 2 .junk), (l2.getD 3 .junk), (l2.getD 4 .junk)] H20))) (
 Jn (fun l21 H22 =>
 aCond (l21.getD 0 .junk).nod (
 R [(I (-1))] H22) (
 R [(I 0)] H22))
 (fun R23 =>
 C.aLen (l2.getD 0 .junk).nod.nod fun v24 =>
 C.aLen (l2.getD 1 .junk).nod.nod fun v25 =>
 C.aBin (Try.prog.underlying 3) .lss v24.nod v25.nod fun v26 =>
 R23 [v26] H3)))
 [a0, a1, a0.nod, v1, (I 0)] H
theorem wf92 : (Nat.ble 2 Try.f92.ntmps && wfC an92 Try.f92.ntmps (Try.f92.body.getD .skip)) = true := by kernel_rfl
theorem tie92 (C : Cb) (a0 a1 : V) (H : Hp) (R : List V → Hp → Prop) : wpG Try.prog C an92 (Try.f92.body.getD .skip) (argF [a0, a1]) H (retG Try.prog C Try.f92 R) (fun _ _ _ => False) (retG Try.prog C Try.f92 R) = vc92 C a0 a1 H R := by kernel_rfl
theorem mk92 (a0 a1 : V) {H : Hp} {v : V} {H1 : Hp} (hd : v.Nd) (hn : H.length ≤ H1.length) (hb : H1 = H ∨ ∀ (b : Nat) (blk : Blk), H1[b]? = some blk → H[b]? = some blk ∨ BelB H1.length blk) (h : vc92 (real Try.prog) a0 a1 H (retF v H1)) : Ret Try.prog 92 [a0, a1] H v H1 :=
 ret_mk (an := an92) hm Try.call92 Try.func92 rfl wf92 hd hn hb (Eq.mpr (tie92 (real Try.prog) a0 a1 H (retF v H1)) h)
def an115 : An := { imm := [], jn := [(8, [0, 1, 13])], lp := [], loud := [], ord := [] }
def vc115 (C : Cb) (a0 a1 : V) (H : Hp) (R : List V → Hp → Prop) : Prop :=
 C.callE 122 [a0.nod.nod] H fun v1 H2 =>
 C.callE 122 [a1.nod.nod] H2 fun v3 H4 =>
 aCond v1.nod.nod (
 aCond v3.nod.nod (
 R [(I 0)] H4) (
 R [(I (-1))] H4)) (
 Jn (fun l5 H6 =>
 aCond (l5.getD 2 .junk).nod (
 R [(I 1)] H6) (
 C.aBin (Try.prog.underlying 3) .lss (l5.getD 0 .junk).nod.nod (l5.getD 1 .junk).nod.nod fun v8 =>
 aCond v8.nod (
 R [(I (-1))] H6) (
 C.aBin (Try.prog.underlying 3) .gtr (l5.getD 0 .junk).nod.nod (l5.getD 1 .junk).nod.nod fun v9 =>
 aCond v9.nod (
 R [(I 1)] H6) (
 R [(I 0)] H6))))
 (fun R7 =>
 R7 [a0, a1, v3.nod] H4))
theorem wf115 : (Nat.ble 2 Try.f115.ntmps && wfC an115 Try.f115.ntmps (Try.f115.body.getD .skip)) = true := by kernel_rfl
theorem tie115 (C : Cb) (a0 a1 : V) (H : Hp) (R : List V → Hp → Prop) : wpG Try.prog C an115 (Try.f115.body.getD .skip) (argF [a0, a1]) H (retG Try.prog C Try.f115 R) (fun _ _ _ => False) (retG Try.prog C Try.f115 R) = vc115 C a0 a1 H R := by kernel_rfl
theorem mk115 (a0 a1 : V) {H : Hp} {v : V} {H1 : Hp} (hd : v.Nd) (hn : H.length ≤ H1.length) (hb : H1 = H ∨ ∀ (b : Nat) (blk : Blk), H1[b]? = some blk → H[b]? = some blk ∨ BelB H1.length blk) (h : vc115 (real Try.prog) a0 a1 H (retF v H1)) : Ret Try.prog 115 [a0, a1] H v H1 :=
 ret_mk (an := an115) hm Try.call115 Try.func115 rfl wf115 hd hn hb (Eq.mpr (tie115 (real Try.prog) a0 a1 H (retF v H1)) h)
def an122 : An := { imm := [], jn := [], lp := [], loud := [], ord := [] }
def vc122 (C : Cb) (a0 : V) (H : Hp) (R : List V → Hp → Prop) : Prop :=
 C.aBin (Try.prog.underlying 3) .neq a0.nod.nod a0.nod.nod fun v1 =>
 R [v1] H
theorem wf122 : (Nat.ble 1 Try.f122.ntmps && wfC an122 Try.f122.ntmps (Try.f122.body.getD .skip)) = true := by kernel_rfl
theorem tie122 (C : Cb) (a0 : V) (H : Hp) (R : List V → Hp → Prop) : wpG Try.prog C an122 (Try.f122.body.getD .skip) (argF [a0]) H (retG Try.prog C Try.f122 R) (fun _ _ _ => False) (retG Try.prog C Try.f122 R) = vc122 C a0 H R := by kernel_rfl
theorem mk122 (a0 : V) {H : Hp} {v : V} {H1 : Hp} (hd : v.Nd) (hn : H.length ≤ H1.length) (hb : H1 = H ∨ ∀ (b : Nat) (blk : Blk), H1[b]? = some blk → H[b]? = some blk ∨ BelB H1.length blk) (h : vc122 (real Try.prog) a0 H (retF v H1)) : Ret Try.prog 122 [a0] H v H1 :=
 ret_mk (an := an122) hm Try.call122 Try.func122 rfl wf122 hd hn hb (Eq.mpr (tie122 (real Try.prog) a0 H (retF v H1)) h)
end Go.Proofs.Ytgicpobploinhaa
