/- The machinery of the proof, part 6: an abstract machine over list values, proved sound against the model, and the contracts of the functions that the law reaches. No condition. -/
import Derived.Test.YtlnjhnemmemloaaP5
import Derived.Test.YtlnjhnemmemloaaProg
import Derived.ChangeSame
import Derived.WalkKit
import Derived.ProofKit
import Derived.OpenShut
import Derived.ShutString
import Derived.ChangeOld
import Derived.Below
set_option linter.unusedVariables false
set_option maxRecDepth 20000
set_option maxHeartbeats 4000000
namespace Go.Proofs.Ytlnjhnemmemloaa
open Go Go.Ab Go.Proofs
def an43 : An := { imm := [], jn := [], lp := [], loud := [], ord := [] }
def vc43 (C : Cb) (a0 a1 : V) (H : Hp) (R : List V → Hp → Prop) : Prop :=
 C.callE 84 [a0.nod.nod, a1.nod.nod] H fun v1 H2 =>
 C.aUn .not v1.nod fun v3 =>
 aCond v3.nod (
 R [(V.arr [] .full), (I 2)] H2) (
 C.callE 85 [a0.nod.nod, a1.nod.nod] H2 fun v4 H5 =>
 R [v4, (I 0)] H5)
theorem wf43 : (Nat.ble 2 Try.f43.ntmps && wfC an43 Try.f43.ntmps (Try.f43.body.getD .skip)) = true := by kernel_rfl
theorem tie43 (C : Cb) (a0 a1 : V) (H : Hp) (R : List V → Hp → Prop) : wpG Try.prog C an43 (Try.f43.body.getD .skip) (argF [a0, a1]) H (retG Try.prog C Try.f43 R) (fun _ _ _ => False) (retG Try.prog C Try.f43 R) = vc43 C a0 a1 H R := by kernel_rfl
theorem mk43 (a0 a1 : V) {H : Hp} {v : V} {H1 : Hp} (hd : v.Nd) (hn : H.length ≤ H1.length) (hb : H1 = H ∨ ∀ (b : Nat) (blk : Blk), H1[b]? = some blk → H[b]? = some blk ∨ BelB H1.length blk) (h : vc43 (real Try.prog) a0 a1 H (retF v H1)) : Ret Try.prog 43 [a0, a1] H v H1 :=
 ret_mk (an := an43) hm Try.call43 Try.func43 rfl wf43 hd hn hb (Eq.mpr (tie43 (real Try.prog) a0 a1 H (retF v H1)) h)
def an44 : An := { imm := [], jn := [], lp := [], loud := [], ord := [] }
def vc44 (C : Cb) (a0 a1 : V) (H : Hp) (R : List V → Hp → Prop) : Prop :=
 C.callE 84 [a0.nod.nod, a1.nod.nod] H fun v1 H2 =>
 C.aUn .not v1.nod fun v3 =>
 aCond v3.nod (
 R [(B false), (I 2)] H2) (
 C.callE 86 [a0.nod.nod, a1.nod.nod] H2 fun v4 H5 =>
 R [v4, (I 0)] H5)
theorem wf44 : (Nat.ble 2 Try.f44.ntmps && wfC an44 Try.f44.ntmps (Try.f44.body.getD .skip)) = true := by kernel_rfl
theorem tie44 (C : Cb) (a0 a1 : V) (H : Hp) (R : List V → Hp → Prop) : wpG Try.prog C an44 (Try.f44.body.getD .skip) (argF [a0, a1]) H (retG Try.prog C Try.f44 R) (fun _ _ _ => False) (retG Try.prog C Try.f44 R) = vc44 C a0 a1 H R := by kernel_rfl
theorem mk44 (a0 a1 : V) {H : Hp} {v : V} {H1 : Hp} (hd : v.Nd) (hn : H.length ≤ H1.length) (hb : H1 = H ∨ ∀ (b : Nat) (blk : Blk), H1[b]? = some blk → H[b]? = some blk ∨ BelB H1.length blk) (h : vc44 (real Try.prog) a0 a1 H (retF v H1)) : Ret Try.prog 44 [a0, a1] H v H1 :=
 ret_mk (an := an44) hm Try.call44 Try.func44 rfl wf44 hd hn hb (Eq.mpr (tie44 (real Try.prog) a0 a1 H (retF v H1)) h)
def an45 : An := { imm := [3], jn := [(5, [0, 3, 6, 16, 17]), (10, [0, 3, 6]), (16, [0, 6, 8])], lp := [(5, [0, 3, 6, 16, 17]), (12, [0, 3, 6, 8, 28, 29, 30])], loud := [23], ord := [] }
def vc45 (C : Cb) (a0 a1 : V) (H : Hp) (R : List V → Hp → Prop) : Prop :=
 C.aBx true 1 a1.nod H fun v1 H2 =>
 C.aLd 1 false false v1.nod H2 fun v3 H4 =>
 C.callE 84 [a0.nod.nod, v3.nod] H4 fun v5 H6 =>
 C.aUn .not v5.nod fun v7 =>
 aCond v7.nod (
 R [(V.arr [] .full), (I 2)] H6) (
 Jn (fun l8 H9 =>
 LoopA (fun l11 H12 K13 =>
 C.aBin (Try.prog.underlying 3) .lss (l11.getD 4 .junk).nod (l11.getD 3 .junk).nod fun v14 =>
 aCond v14.nod (
 C.aBS 1 1 (I 0) [(0, (l11.getD 4 .junk).nod.nod.nod)] fun v15 =>
 C.aAppS 1 8 (l11.getD 2 .junk) v15.nod H12 fun v16 H17 =>
 C.aBin (Try.prog.underlying 3) .add (l11.getD 4 .junk).nod (I 1) fun v18 =>
 K13 [(l11.getD 0 .junk), (l11.getD 1 .junk), v16, (l11.getD 3 .junk), v18.nod] H17) (
 Jn (fun l19 H20 =>
 Jn (fun l22 H23 =>
 C.callE 86 [(l22.getD 0 .junk).nod.nod, (l22.getD 2 .junk).nod.nod] H23 fun v25 H26 =>
 C.aUn .not v25.nod fun v27 =>
 aCond v27.nod (
 R [(V.arr [] .full), (I 5)] H26) (
 R [(l22.getD 1 .junk).nod, (I 0)] H26))
 (fun R24 =>
 C.aLen (l19.getD 2 .junk).nod.nod fun v28 =>
 LoopA (fun l29 H30 K31 =>
 C.aBin (Try.prog.underlying 3) .lss (l29.getD 6 .junk).nod (l29.getD 5 .junk).nod fun v32 =>
 aCond v32.nod (
 C.aIx 1 (l29.getD 4 .junk).nod (l29.getD 6 .junk).nod fun v33 =>
 C.aLd 1 false false v33.nod H30 fun v34 H35 =>
 C.aLd 1 false false (l29.getD 1 .junk).nod H35 fun v36 H37 =>
 C.aIx 2 v36.nod v34.nod.nod fun v38 =>
 C.aLd 2 true false v38.nod H37 fun v39 H40 =>
 C.aBS 2 1 (V.agg [(I 0), (I 0)]) [(0, v39.nod)] fun v41 =>
 C.aApp 2 16 (l29.getD 3 .junk) v41.nod fun v42 =>
 C.aBin (Try.prog.underlying 3) .add (l29.getD 6 .junk).nod (I 1) fun v43 =>
 K31 [(l29.getD 0 .junk), (l29.getD 1 .junk), (l29.getD 2 .junk), v42, (l29.getD 4 .junk), (l29.getD 5 .junk), v43.nod] H40) (
 R24 [(l29.getD 0 .junk), (l29.getD 2 .junk), (l29.getD 3 .junk)] H30))
 [(l19.getD 0 .junk), (l19.getD 1 .junk), (l19.getD 2 .junk), (V.arr [] .full), (l19.getD 2 .junk).nod, v28, (I 0)] H20))
 (fun R21 =>
 C.callE 87 [(l11.getD 2 .junk).nod.nod, (V.fn 88 [(l11.getD 1 .junk).nod])] H12 fun v44 H45 =>
 R21 [(l11.getD 0 .junk), (l11.getD 1 .junk), (l11.getD 2 .junk)] H45)))
 [(l8.getD 0 .junk), (l8.getD 1 .junk), (l8.getD 2 .junk), (l8.getD 3 .junk), (l8.getD 4 .junk)] H9)
 (fun R10 =>
 C.aLd 1 false false v1.nod H6 fun v46 H47 =>
 C.aLen v46.nod fun v48 =>
 R10 [a0, v1, (V.arr [] .full), v48, (I 0)] H47))
theorem wf45 : (Nat.ble 2 Try.f45.ntmps && wfC an45 Try.f45.ntmps (Try.f45.body.getD .skip)) = true := by kernel_rfl
theorem tie45 (C : Cb) (a0 a1 : V) (H : Hp) (R : List V → Hp → Prop) : wpG Try.prog C an45 (Try.f45.body.getD .skip) (argF [a0, a1]) H (retG Try.prog C Try.f45 R) (fun _ _ _ => False) (retG Try.prog C Try.f45 R) = vc45 C a0 a1 H R := by kernel_rfl
theorem mk45 (a0 a1 : V) {H : Hp} {v : V} {H1 : Hp} (hd : v.Nd) (hn : H.length ≤ H1.length) (hb : H1 = H ∨ ∀ (b : Nat) (blk : Blk), H1[b]? = some blk → H[b]? = some blk ∨ BelB H1.length blk) (h : vc45 (real Try.prog) a0 a1 H (retF v H1)) : Ret Try.prog 45 [a0, a1] H v H1 :=
 ret_mk (an := an45) hm Try.call45 Try.func45 rfl wf45 hd hn hb (Eq.mpr (tie45 (real Try.prog) a0 a1 H (retF v H1)) h)
def an46 : An := { imm := [], jn := [(2, [1, 16]), (7, [1, 5, 52])], lp := [(4, [1, 5])], loud := [], ord := [] }
def vc46 (C : Cb) (a0 a1 : V) (H : Hp) (R : List V → Hp → Prop) : Prop :=
 Jn (fun l1 H2 =>
 aCond (l1.getD 1 .junk).nod (
 R [(B false)] H2) (
 LoopA (fun l4 H5 K6 =>
 C.aLen (l4.getD 0 .junk).nod.nod fun v7 =>
 C.aBin (Try.prog.underlying 3) .lss (l4.getD 1 .junk).nod.nod v7.nod fun v8 =>
 aCond v8.nod (
 Jn (fun l9 H10 =>
 aCond (l9.getD 2 .junk).nod (
 R [(B false)] H10) (
 C.aBin (Try.prog.underlying 3) .add (l9.getD 1 .junk).nod.nod (I 1) fun v12 =>
 K6 [(l9.getD 0 .junk), v12] H10))
 (fun R11 =>
 C.aIx 2 (l4.getD 0 .junk).nod.nod (l4.getD 1 .junk).nod.nod fun v13 =>
 C.aFA 0 1 false v13.nod fun v14 =>
 C.aLd 1 false false v14.nod H5 fun v15 H16 =>
 C.aBin (Try.prog.underlying 3) .lss v15.nod (I 0) fun v17 =>
 Jv (fun v18 H19 =>
 Jv (fun v26 H27 =>
 Jv (fun v34 H35 =>
 R11 [(l4.getD 0 .junk), (l4.getD 1 .junk), v34] H35)
 (fun R36 =>
 aG v26.nod false (
 C.aIx 2 (l4.getD 0 .junk).nod.nod (l4.getD 1 .junk).nod.nod fun v37 =>
 C.aFA 1 1 false v37.nod fun v38 =>
 C.aLd 1 false false v38.nod H27 fun v39 H40 =>
 C.aBin (Try.prog.underlying 3) .gtr v39.nod (I 1099511627776) fun v41 =>
 R36 v41.nod H40) (
 R36 (B true) H27)))
 (fun R28 =>
 aG v18.nod false (
 C.aIx 2 (l4.getD 0 .junk).nod.nod (l4.getD 1 .junk).nod.nod fun v29 =>
 C.aFA 1 1 false v29.nod fun v30 =>
 C.aLd 1 false false v30.nod H19 fun v31 H32 =>
 C.aBin (Try.prog.underlying 3) .lss v31.nod (I 0) fun v33 =>
 R28 v33.nod H32) (
 R28 (B true) H19)))
 (fun R20 =>
 aG v17.nod false (
 C.aIx 2 (l4.getD 0 .junk).nod.nod (l4.getD 1 .junk).nod.nod fun v21 =>
 C.aFA 0 1 false v21.nod fun v22 =>
 C.aLd 1 false false v22.nod H16 fun v23 H24 =>
 C.aBin (Try.prog.underlying 3) .gtr v23.nod (I 1073741824) fun v25 =>
 R20 v25.nod H24) (
 R20 (B true) H16)))) (
 R [(B true)] H5))
 [(l1.getD 0 .junk), (I 0)] H2))
 (fun R3 =>
 C.aBin (Try.prog.underlying 3) .lss a0.nod.nod (I 1) fun v42 =>
 Jv (fun v43 H44 =>
 Jv (fun v47 H48 =>
 R3 [a1, v47] H48)
 (fun R49 =>
 aG v43.nod false (
 C.aLen a1.nod.nod fun v50 =>
 C.aBin (Try.prog.underlying 3) .gtr v50.nod (I 1000) fun v51 =>
 R49 v51.nod H44) (
 R49 (B true) H44)))
 (fun R45 =>
 aG v42.nod false (
 C.aBin (Try.prog.underlying 3) .gtr a0.nod.nod (I 1073741824) fun v46 =>
 R45 v46.nod H) (
 R45 (B true) H)))
theorem wf46 : (Nat.ble 2 Try.f46.ntmps && wfC an46 Try.f46.ntmps (Try.f46.body.getD .skip)) = true := by kernel_rfl
theorem tie46 (C : Cb) (a0 a1 : V) (H : Hp) (R : List V → Hp → Prop) : wpG Try.prog C an46 (Try.f46.body.getD .skip) (argF [a0, a1]) H (retG Try.prog C Try.f46 R) (fun _ _ _ => False) (retG Try.prog C Try.f46 R) = vc46 C a0 a1 H R := by kernel_rfl
theorem mk46 (a0 a1 : V) {H : Hp} {v : V} {H1 : Hp} (hd : v.Nd) (hn : H.length ≤ H1.length) (hb : H1 = H ∨ ∀ (b : Nat) (blk : Blk), H1[b]? = some blk → H[b]? = some blk ∨ BelB H1.length blk) (h : vc46 (real Try.prog) a0 a1 H (retF v H1)) : Ret Try.prog 46 [a0, a1] H v H1 :=
 ret_mk (an := an46) hm Try.call46 Try.func46 rfl wf46 hd hn hb (Eq.mpr (tie46 (real Try.prog) a0 a1 H (retF v H1)) h)
def an84 : An := { imm := [], jn := [], lp := [], loud := [], ord := [] }
def vc84 (C : Cb) (a0 a1 : V) (H : Hp) (R : List V → Hp → Prop) : Prop :=
 C.callE 61 [a0.nod.nod, (I 1), (I 1073741824)] H fun v1 H2 =>
 Jv (fun v3 H4 =>
 Jv (fun v8 H9 =>
 R [v8] H9)
 (fun R10 =>
 aG v3.nod true (
 C.callE 101 [a1.nod.nod, (V.fn 102 [])] H4 fun v11 H12 =>
 C.aUn .not v11.nod fun v13 =>
 R10 v13.nod H12) (
 R10 (B false) H4)))
 (fun R5 =>
 aG v1.nod true (
 C.aLen a1.nod.nod fun v6 =>
 C.aBin (Try.prog.underlying 3) .leq v6.nod (I 1000) fun v7 =>
 R5 v7.nod H2) (
 R5 (B false) H2))
theorem wf84 : (Nat.ble 2 Try.f84.ntmps && wfC an84 Try.f84.ntmps (Try.f84.body.getD .skip)) = true := by kernel_rfl
theorem tie84 (C : Cb) (a0 a1 : V) (H : Hp) (R : List V → Hp → Prop) : wpG Try.prog C an84 (Try.f84.body.getD .skip) (argF [a0, a1]) H (retG Try.prog C Try.f84 R) (fun _ _ _ => False) (retG Try.prog C Try.f84 R) = vc84 C a0 a1 H R := by kernel_rfl
theorem mk84 (a0 a1 : V) {H : Hp} {v : V} {H1 : Hp} (hd : v.Nd) (hn : H.length ≤ H1.length) (hb : H1 = H ∨ ∀ (b : Nat) (blk : Blk), H1[b]? = some blk → H[b]? = some blk ∨ BelB H1.length blk) (h : vc84 (real Try.prog) a0 a1 H (retF v H1)) : Ret Try.prog 84 [a0, a1] H v H1 :=
 ret_mk (an := an84) hm Try.call84 Try.func84 rfl wf84 hd hn hb (Eq.mpr (tie84 (real Try.prog) a0 a1 H (retF v H1)) h)
def an85 : An := { imm := [8], jn := [], lp := [(4, [0, 5, 6, 9, 10, 11])], loud := [], ord := [] }
def vc85 (C : Cb) (a0 a1 : V) (H : Hp) (R : List V → Hp → Prop) : Prop :=
 C.aLen a1.nod.nod fun v1 =>
 LoopA (fun l2 H3 K4 =>
 C.aBin (Try.prog.underlying 3) .lss (l2.getD 5 .junk).nod (l2.getD 4 .junk).nod fun v5 =>
 aCond v5.nod (
 C.aIx 2 (l2.getD 3 .junk).nod (l2.getD 5 .junk).nod fun v6 =>
 C.aLd 2 true false v6.nod H3 fun v7 H8 =>
 C.aBx true 2 v7.nod H8 fun v9 H10 =>
 C.aFA 0 1 false v9.nod fun v11 =>
 C.aLd 1 false false v11.nod H10 fun v12 H13 =>
 C.aBin (Try.prog.underlying 3) .add (l2.getD 2 .junk).nod.nod v12.nod fun v14 =>
 C.aBin (Try.prog.underlying 3) .add v14.nod.nod (l2.getD 0 .junk).nod.nod fun v15 =>
 C.aBin (Try.prog.underlying 3) .sub v15.nod (I 1) fun v16 =>
 C.aBin (Try.prog.underlying 3) .quo v16.nod (l2.getD 0 .junk).nod.nod fun v17 =>
 C.aBS 1 1 (I 0) [(0, v17.nod)] fun v18 =>
 C.aApp 1 8 (l2.getD 1 .junk) v18.nod fun v19 =>
 C.aBin (Try.prog.underlying 3) .add (l2.getD 5 .junk).nod (I 1) fun v20 =>
 K4 [(l2.getD 0 .junk), v19, v14, (l2.getD 3 .junk), (l2.getD 4 .junk), v20.nod] H13) (
 R [(l2.getD 1 .junk).nod] H3))
 [a0, (V.arr [] .full), (I 0), a1.nod, v1, (I 0)] H
theorem wf85 : (Nat.ble 2 Try.f85.ntmps && wfC an85 Try.f85.ntmps (Try.f85.body.getD .skip)) = true := by kernel_rfl
theorem tie85 (C : Cb) (a0 a1 : V) (H : Hp) (R : List V → Hp → Prop) : wpG Try.prog C an85 (Try.f85.body.getD .skip) (argF [a0, a1]) H (retG Try.prog C Try.f85 R) (fun _ _ _ => False) (retG Try.prog C Try.f85 R) = vc85 C a0 a1 H R := by kernel_rfl
theorem mk85 (a0 a1 : V) {H : Hp} {v : V} {H1 : Hp} (hd : v.Nd) (hn : H.length ≤ H1.length) (hb : H1 = H ∨ ∀ (b : Nat) (blk : Blk), H1[b]? = some blk → H[b]? = some blk ∨ BelB H1.length blk) (h : vc85 (real Try.prog) a0 a1 H (retF v H1)) : Ret Try.prog 85 [a0, a1] H v H1 :=
 ret_mk (an := an85) hm Try.call85 Try.func85 rfl wf85 hd hn hb (Eq.mpr (tie85 (real Try.prog) a0 a1 H (retF v H1)) h)
def an86 : An := { imm := [], jn := [(5, [1, 9, 10, 11, 22])], lp := [(2, [1, 9, 10, 11])], loud := [], ord := [] }
def vc86 (C : Cb) (a0 a1 : V) (H : Hp) (R : List V → Hp → Prop) : Prop :=
 C.callE 85 [a0.nod.nod, a1.nod.nod] H fun v1 H2 =>
 C.aLen v1.nod fun v3 =>
 LoopA (fun l4 H5 K6 =>
 C.aBin (Try.prog.underlying 3) .lss (l4.getD 3 .junk).nod (l4.getD 2 .junk).nod fun v7 =>
 aCond v7.nod (
 C.aIx 1 (l4.getD 1 .junk).nod (l4.getD 3 .junk).nod fun v8 =>
 C.aLd 1 false false v8.nod H5 fun v9 H10 =>
 Jn (fun l11 H12 =>
 aCond (l11.getD 4 .junk).nod (
 R [(B false)] H12) (
 C.aBin (Try.prog.underlying 3) .add (l11.getD 3 .junk).nod (I 1) fun v14 =>
 K6 [(l11.getD 0 .junk), (l11.getD 1 .junk), (l11.getD 2 .junk), v14.nod] H12))
 (fun R13 =>
 C.aIx 2 (l4.getD 0 .junk).nod.nod (l4.getD 3 .junk).nod.nod.nod fun v15 =>
 C.aFA 1 1 false v15.nod fun v16 =>
 C.aLd 1 false false v16.nod H10 fun v17 H18 =>
 C.aBin (Try.prog.underlying 3) .gtr v9.nod.nod v17.nod fun v19 =>
 R13 [(l4.getD 0 .junk), (l4.getD 1 .junk), (l4.getD 2 .junk), (l4.getD 3 .junk), v19] H18)) (
 R [(B true)] H5))
 [a1, v1, v3, (I 0)] H2
theorem wf86 : (Nat.ble 2 Try.f86.ntmps && wfC an86 Try.f86.ntmps (Try.f86.body.getD .skip)) = true := by kernel_rfl
theorem tie86 (C : Cb) (a0 a1 : V) (H : Hp) (R : List V → Hp → Prop) : wpG Try.prog C an86 (Try.f86.body.getD .skip) (argF [a0, a1]) H (retG Try.prog C Try.f86 R) (fun _ _ _ => False) (retG Try.prog C Try.f86 R) = vc86 C a0 a1 H R := by kernel_rfl
theorem mk86 (a0 a1 : V) {H : Hp} {v : V} {H1 : Hp} (hd : v.Nd) (hn : H.length ≤ H1.length) (hb : H1 = H ∨ ∀ (b : Nat) (blk : Blk), H1[b]? = some blk → H[b]? = some blk ∨ BelB H1.length blk) (h : vc86 (real Try.prog) a0 a1 H (retF v H1)) : Ret Try.prog 86 [a0, a1] H v H1 :=
 ret_mk (an := an86) hm Try.call86 Try.func86 rfl wf86 hd hn hb (Eq.mpr (tie86 (real Try.prog) a0 a1 H (retF v H1)) h)
def an87 : An := { imm := [], jn := [], lp := [], loud := [], ord := [] }
def vc87 (C : Cb) (a0 a1 : V) (H : Hp) (R : List V → Hp → Prop) : Prop :=
 C.aLen a0.nod.nod fun v1 =>
 C.callE 103 [a0.nod.nod, v1.nod, a1.nod.nod] H fun v2 H3 =>
 R [] H3
theorem wf87 : (Nat.ble 2 Try.f87.ntmps && wfC an87 Try.f87.ntmps (Try.f87.body.getD .skip)) = true := by kernel_rfl
theorem tie87 (C : Cb) (a0 a1 : V) (H : Hp) (R : List V → Hp → Prop) : wpG Try.prog C an87 (Try.f87.body.getD .skip) (argF [a0, a1]) H (retG Try.prog C Try.f87 R) (fun _ _ _ => False) (retG Try.prog C Try.f87 R) = vc87 C a0 a1 H R := by kernel_rfl
theorem mkE87 (a0 a1 : V) {H : Hp} {Q : V → Hp → Prop} (h : vc87 (real Try.prog) a0 a1 H (retW Q)) : RetE Try.prog 87 [a0, a1] H Q :=
 retE_mk (an := an87) hm Try.call87 Try.func87 rfl wf87 (Eq.mpr (tie87 (real Try.prog) a0 a1 H (retW Q)) h)
def an88 : An := { imm := [], jn := [], lp := [], loud := [], ord := [] }
def vc88 (C : Cb) (a0 a1 a2 : V) (H : Hp) (R : List V → Hp → Prop) : Prop :=
 C.aLd 1 false false a2.nod H fun v1 H2 =>
 C.aIx 2 v1.nod a0.nod.nod fun v3 =>
 C.aFA 1 1 false v3.nod fun v4 =>
 C.aLd 1 false false v4.nod H2 fun v5 H6 =>
 C.aLd 1 false false a2.nod H6 fun v7 H8 =>
 C.aIx 2 v7.nod a1.nod.nod fun v9 =>
 C.aFA 1 1 false v9.nod fun v10 =>
 C.aLd 1 false false v10.nod H8 fun v11 H12 =>
 C.aBin (Try.prog.underlying 3) .sub v5.nod v11.nod fun v13 =>
 R [v13] H12
theorem wf88 : (Nat.ble 3 Try.f88.ntmps && wfC an88 Try.f88.ntmps (Try.f88.body.getD .skip)) = true := by kernel_rfl
theorem tie88 (C : Cb) (a0 a1 a2 : V) (H : Hp) (R : List V → Hp → Prop) : wpG Try.prog C an88 (Try.f88.body.getD .skip) (argF [a0, a1, a2]) H (retG Try.prog C Try.f88 R) (fun _ _ _ => False) (retG Try.prog C Try.f88 R) = vc88 C a0 a1 a2 H R := by kernel_rfl
theorem mk88 (a0 a1 a2 : V) {H : Hp} {v : V} {H1 : Hp} (hd : v.Nd) (hn : H.length ≤ H1.length) (hb : H1 = H ∨ ∀ (b : Nat) (blk : Blk), H1[b]? = some blk → H[b]? = some blk ∨ BelB H1.length blk) (h : vc88 (real Try.prog) a0 a1 a2 H (retF v H1)) : Ret Try.prog 88 [a0, a1, a2] H v H1 :=
 ret_mk (an := an88) hm Try.call88 Try.func88 rfl wf88 hd hn hb (Eq.mpr (tie88 (real Try.prog) a0 a1 a2 H (retF v H1)) h)
def an101 : An := { imm := [], jn := [], lp := [], loud := [], ord := [] }
def vc101 (C : Cb) (a0 a1 : V) (H : Hp) (R : List V → Hp → Prop) : Prop :=
 C.callE 111 [a0.nod.nod, a1.nod.nod] H fun v1 H2 =>
 C.aBin (Try.prog.underlying 3) .geq v1.nod (I 0) fun v3 =>
 R [v3] H2
theorem wf101 : (Nat.ble 2 Try.f101.ntmps && wfC an101 Try.f101.ntmps (Try.f101.body.getD .skip)) = true := by kernel_rfl
theorem tie101 (C : Cb) (a0 a1 : V) (H : Hp) (R : List V → Hp → Prop) : wpG Try.prog C an101 (Try.f101.body.getD .skip) (argF [a0, a1]) H (retG Try.prog C Try.f101 R) (fun _ _ _ => False) (retG Try.prog C Try.f101 R) = vc101 C a0 a1 H R := by kernel_rfl
theorem mk101 (a0 a1 : V) {H : Hp} {v : V} {H1 : Hp} (hd : v.Nd) (hn : H.length ≤ H1.length) (hb : H1 = H ∨ ∀ (b : Nat) (blk : Blk), H1[b]? = some blk → H[b]? = some blk ∨ BelB H1.length blk) (h : vc101 (real Try.prog) a0 a1 H (retF v H1)) : Ret Try.prog 101 [a0, a1] H v H1 :=
 ret_mk (an := an101) hm Try.call101 Try.func101 rfl wf101 hd hn hb (Eq.mpr (tie101 (real Try.prog) a0 a1 H (retF v H1)) h)
def an102 : An := { imm := [1], jn := [], lp := [], loud := [], ord := [] }
def vc102 (C : Cb) (a0 : V) (H : Hp) (R : List V → Hp → Prop) : Prop :=
 C.aBx true 2 a0.nod H fun v1 H2 =>
 C.aFA 0 1 false v1.nod fun v3 =>
 C.aLd 1 false false v3.nod H2 fun v4 H5 =>
 C.callE 61 [v4.nod, (I 0), (I 1073741824)] H5 fun v6 H7 =>
 C.aUn .not v6.nod fun v8 =>
 Jv (fun v9 H10 =>
 R [v9] H10)
 (fun R11 =>
 aG v8.nod false (
 C.aFA 1 1 false v1.nod fun v12 =>
 C.aLd 1 false false v12.nod H7 fun v13 H14 =>
 C.callE 61 [v13.nod, (I 0), (I 1099511627776)] H14 fun v15 H16 =>
 C.aUn .not v15.nod fun v17 =>
 R11 v17.nod H16) (
 R11 (B true) H7))
theorem wf102 : (Nat.ble 1 Try.f102.ntmps && wfC an102 Try.f102.ntmps (Try.f102.body.getD .skip)) = true := by kernel_rfl
theorem tie102 (C : Cb) (a0 : V) (H : Hp) (R : List V → Hp → Prop) : wpG Try.prog C an102 (Try.f102.body.getD .skip) (argF [a0]) H (retG Try.prog C Try.f102 R) (fun _ _ _ => False) (retG Try.prog C Try.f102 R) = vc102 C a0 H R := by kernel_rfl
theorem mk102 (a0 : V) {H : Hp} {v : V} {H1 : Hp} (hd : v.Nd) (hn : H.length ≤ H1.length) (hb : H1 = H ∨ ∀ (b : Nat) (blk : Blk), H1[b]? = some blk → H[b]? = some blk ∨ BelB H1.length blk) (h : vc102 (real Try.prog) a0 H (retF v H1)) : Ret Try.prog 102 [a0] H v H1 :=
 ret_mk (an := an102) hm Try.call102 Try.func102 rfl wf102 hd hn hb (Eq.mpr (tie102 (real Try.prog) a0 H (retF v H1)) h)
def an103 : An := { imm := [], jn := [(6, [0, 1, 2, 6, 7]), (12, [0, 1, 2, 6, 7, 8]), (15, [0, 1, 2, 6, 7, 9, 54]), (16, [0, 1, 2, 6])], lp := [(2, [0, 1, 2, 6, 7, 8]), (7, [0, 1, 2, 6]), (9, [0, 1, 2, 6, 7, 8])], loud := [], ord := [] }
def vc103 (C : Cb) (a0 a1 a2 : V) (H : Hp) (R : List V → Hp → Prop) : Prop :=
 Jn (fun l1 H2 =>
 C.callE 112 [(l1.getD 0 .junk).nod.nod, (l1.getD 4 .junk).nod.nod, (l1.getD 1 .junk).nod.nod, (l1.getD 2 .junk).nod.nod] H2 fun v4 H5 =>
 LoopA (fun l6 H7 K8 =>
 C.aBin (Try.prog.underlying 3) .lss (l6.getD 3 .junk).nod.nod (l6.getD 1 .junk).nod.nod fun v9 =>
 aCond v9.nod (
 C.aBin (Try.prog.underlying 3) .mul (I 2) (l6.getD 3 .junk).nod.nod fun v10 =>
 LoopA (fun l11 H12 K13 =>
 C.aBin (Try.prog.underlying 3) .leq (l11.getD 5 .junk).nod.nod (l11.getD 1 .junk).nod.nod fun v14 =>
 aCond v14.nod (
 C.aBin (Try.prog.underlying 3) .add (l11.getD 4 .junk).nod.nod (l11.getD 3 .junk).nod.nod fun v15 =>
 C.callE 113 [(l11.getD 0 .junk).nod.nod, (l11.getD 4 .junk).nod.nod, v15.nod, (l11.getD 5 .junk).nod.nod, (l11.getD 2 .junk).nod.nod] H12 fun v16 H17 =>
 Jn (fun l18 H19 =>
 C.aBin (Try.prog.underlying 3) .mul (I 2) (l18.getD 3 .junk).nod.nod fun v21 =>
 C.aBin (Try.prog.underlying 3) .add (l18.getD 5 .junk).nod.nod v21.nod fun v22 =>
 K13 [(l18.getD 0 .junk), (l18.getD 1 .junk), (l18.getD 2 .junk), (l18.getD 3 .junk), (l18.getD 4 .junk), v22] H19)
 (fun R20 =>
 R20 [(l11.getD 0 .junk), (l11.getD 1 .junk), (l11.getD 2 .junk), (l11.getD 3 .junk), (l11.getD 5 .junk).nod, (l11.getD 5 .junk)] H17)) (
 Jn (fun l23 H24 =>
 C.aBin (Try.prog.underlying 3) .mul (l23.getD 3 .junk).nod.nod (I 2) fun v26 =>
 K8 [(l23.getD 0 .junk), (l23.getD 1 .junk), (l23.getD 2 .junk), v26] H24)
 (fun R25 =>
 C.aBin (Try.prog.underlying 3) .add (l11.getD 4 .junk).nod.nod (l11.getD 3 .junk).nod.nod fun v27 =>
 Jn (fun l28 H29 =>
 aCond (l28.getD 6 .junk).nod (
 C.callE 113 [(l28.getD 0 .junk).nod.nod, (l28.getD 4 .junk).nod.nod, (l28.getD 5 .junk).nod.nod, (l28.getD 1 .junk).nod.nod, (l28.getD 2 .junk).nod.nod] H29 fun v31 H32 =>
 R25 [(l28.getD 0 .junk), (l28.getD 1 .junk), (l28.getD 2 .junk), (l28.getD 3 .junk)] H32) (
 R25 [(l28.getD 0 .junk), (l28.getD 1 .junk), (l28.getD 2 .junk), (l28.getD 3 .junk)] H29))
 (fun R30 =>
 C.aBin (Try.prog.underlying 3) .lss v27.nod.nod (l11.getD 1 .junk).nod.nod fun v33 =>
 R30 [(l11.getD 0 .junk), (l11.getD 1 .junk), (l11.getD 2 .junk), (l11.getD 3 .junk), (l11.getD 4 .junk), v27, v33] H12))))
 [(l6.getD 0 .junk), (l6.getD 1 .junk), (l6.getD 2 .junk), (l6.getD 3 .junk), (I 0), v10] H7) (
 R [] H7))
 [(l1.getD 0 .junk), (l1.getD 1 .junk), (l1.getD 2 .junk), (l1.getD 3 .junk)] H5)
 (fun R3 =>
 LoopA (fun l34 H35 K36 =>
 C.aBin (Try.prog.underlying 3) .leq (l34.getD 5 .junk).nod.nod (l34.getD 1 .junk).nod.nod fun v37 =>
 aCond v37.nod (
 C.callE 112 [(l34.getD 0 .junk).nod.nod, (l34.getD 4 .junk).nod.nod, (l34.getD 5 .junk).nod.nod, (l34.getD 2 .junk).nod.nod] H35 fun v38 H39 =>
 C.aBin (Try.prog.underlying 3) .add (l34.getD 5 .junk).nod.nod (l34.getD 3 .junk).nod.nod fun v40 =>
 K36 [(l34.getD 0 .junk), (l34.getD 1 .junk), (l34.getD 2 .junk), (l34.getD 3 .junk), (l34.getD 5 .junk).nod, v40] H39) (
 R3 [(l34.getD 0 .junk), (l34.getD 1 .junk), (l34.getD 2 .junk), (l34.getD 3 .junk), (l34.getD 4 .junk)] H35))
 [a0, a1, a2, (I 20), (I 0), (I 20)] H)
theorem wf103 : (Nat.ble 3 Try.f103.ntmps && wfC an103 Try.f103.ntmps (Try.f103.body.getD .skip)) = true := by kernel_rfl
theorem tie103 (C : Cb) (a0 a1 a2 : V) (H : Hp) (R : List V → Hp → Prop) : wpG Try.prog C an103 (Try.f103.body.getD .skip) (argF [a0, a1, a2]) H (retG Try.prog C Try.f103 R) (fun _ _ _ => False) (retG Try.prog C Try.f103 R) = vc103 C a0 a1 a2 H R := by kernel_rfl
theorem mkE103 (a0 a1 a2 : V) {H : Hp} {Q : V → Hp → Prop} (h : vc103 (real Try.prog) a0 a1 a2 H (retW Q)) : RetE Try.prog 103 [a0, a1, a2] H Q :=
 retE_mk (an := an103) hm Try.call103 Try.func103 rfl wf103 (Eq.mpr (tie103 (real Try.prog) a0 a1 a2 H (retW Q)) h)
def an111 : An := { imm := [], jn := [], lp := [(2, [0, 1, 7, 8])], loud := [], ord := [] }
def vc111 (C : Cb) (a0 a1 : V) (H : Hp) (R : List V → Hp → Prop) : Prop :=
 C.aLen a0.nod.nod fun v1 =>
 LoopA (fun l2 H3 K4 =>
 C.aBin (Try.prog.underlying 3) .lss (l2.getD 3 .junk).nod (l2.getD 2 .junk).nod fun v5 =>
 aCond v5.nod (
 C.aIx 2 (l2.getD 0 .junk).nod.nod (l2.getD 3 .junk).nod.nod.nod fun v6 =>
 C.aLd 2 true false v6.nod H3 fun v7 H8 =>
 aCallEG C (l2.getD 1 .junk).nod.nod [v7.nod] H8 fun v9 H10 =>
 aCond v9.nod (
 R [(l2.getD 3 .junk).nod.nod] H10) (
 C.aBin (Try.prog.underlying 3) .add (l2.getD 3 .junk).nod (I 1) fun v11 =>
 K4 [(l2.getD 0 .junk), (l2.getD 1 .junk), (l2.getD 2 .junk), v11.nod] H10)) (
 R [(I (-1))] H3))
 [a0, a1, v1, (I 0)] H
theorem wf111 : (Nat.ble 2 Try.f111.ntmps && wfC an111 Try.f111.ntmps (Try.f111.body.getD .skip)) = true := by kernel_rfl
theorem tie111 (C : Cb) (a0 a1 : V) (H : Hp) (R : List V → Hp → Prop) : wpG Try.prog C an111 (Try.f111.body.getD .skip) (argF [a0, a1]) H (retG Try.prog C Try.f111 R) (fun _ _ _ => False) (retG Try.prog C Try.f111 R) = vc111 C a0 a1 H R := by kernel_rfl
theorem mk111 (a0 a1 : V) {H : Hp} {v : V} {H1 : Hp} (hd : v.Nd) (hn : H.length ≤ H1.length) (hb : H1 = H ∨ ∀ (b : Nat) (blk : Blk), H1[b]? = some blk → H[b]? = some blk ∨ BelB H1.length blk) (h : vc111 (real Try.prog) a0 a1 H (retF v H1)) : Ret Try.prog 111 [a0, a1] H v H1 :=
 ret_mk (an := an111) hm Try.call111 Try.func111 rfl wf111 hd hn hb (Eq.mpr (tie111 (real Try.prog) a0 a1 H (retF v H1)) h)
def an112 : An := { imm := [], jn := [(5, [0, 1, 2, 3, 8, 9]), (6, [0, 1, 2, 3, 8, 9])], lp := [(1, [0, 1, 2, 3, 8]), (4, [0, 1, 2, 3, 8, 9])], loud := [32], ord := [] }
def vc112 (C : Cb) (a0 a1 a2 a3 : V) (H : Hp) (R : List V → Hp → Prop) : Prop :=
 C.aBin (Try.prog.underlying 3) .add a1.nod.nod (I 1) fun v1 =>
 LoopA (fun l2 H3 K4 =>
 C.aBin (Try.prog.underlying 3) .lss (l2.getD 4 .junk).nod.nod (l2.getD 2 .junk).nod.nod fun v5 =>
 aCond v5.nod (
 LoopA (fun l6 H7 K8 =>
 Jn (fun l9 H10 =>
 Jn (fun l12 H13 =>
 C.aBin (Try.prog.underlying 3) .sub (l12.getD 5 .junk).nod.nod (I 1) fun v15 =>
 K8 [(l12.getD 0 .junk), (l12.getD 1 .junk), (l12.getD 2 .junk), (l12.getD 3 .junk), (l12.getD 4 .junk), v15] H13)
 (fun R14 =>
 C.aBin (Try.prog.underlying 3) .sub (l9.getD 5 .junk).nod.nod (I 1) fun v16 =>
 C.aBin (Try.prog.underlying 3) .sub (l9.getD 5 .junk).nod.nod (I 1) fun v17 =>
 C.aIx 1 (l9.getD 0 .junk).nod.nod v17.nod fun v18 =>
 C.aLd 1 false false v18.nod H10 fun v19 H20 =>
 C.aIx 1 (l9.getD 0 .junk).nod.nod (l9.getD 5 .junk).nod.nod fun v21 =>
 C.aLd 1 false false v21.nod H20 fun v22 H23 =>
 C.aIx 1 (l9.getD 0 .junk).nod.nod (l9.getD 5 .junk).nod.nod fun v24 =>
 C.aSt 1 v24.nod v19 H23 fun v25 H26 =>
 C.aIx 1 (l9.getD 0 .junk).nod.nod v16.nod fun v27 =>
 C.aSt 1 v27.nod v22 H26 fun v28 H29 =>
 R14 [(l9.getD 0 .junk), (l9.getD 1 .junk), (l9.getD 2 .junk), (l9.getD 3 .junk), (l9.getD 4 .junk), (l9.getD 5 .junk)] H29))
 (fun R11 =>
 C.aBin (Try.prog.underlying 3) .gtr (l6.getD 5 .junk).nod.nod (l6.getD 1 .junk).nod.nod fun v30 =>
 Jv (fun v31 H32 =>
 aCond v31.nod (
 R11 [(l6.getD 0 .junk), (l6.getD 1 .junk), (l6.getD 2 .junk), (l6.getD 3 .junk), (l6.getD 4 .junk), (l6.getD 5 .junk)] H32) (
 C.aBin (Try.prog.underlying 3) .add (l6.getD 4 .junk).nod.nod (I 1) fun v44 =>
 K4 [(l6.getD 0 .junk), (l6.getD 1 .junk), (l6.getD 2 .junk), (l6.getD 3 .junk), v44] H32))
 (fun R33 =>
 aG v30.nod true (
 C.aIx 1 (l6.getD 0 .junk).nod.nod (l6.getD 5 .junk).nod.nod fun v34 =>
 C.aLd 1 false false v34.nod H7 fun v35 H36 =>
 C.aBin (Try.prog.underlying 3) .sub (l6.getD 5 .junk).nod.nod (I 1) fun v37 =>
 C.aIx 1 (l6.getD 0 .junk).nod.nod v37.nod fun v38 =>
 C.aLd 1 false false v38.nod H36 fun v39 H40 =>
 aCallG C (l6.getD 3 .junk).nod.nod [v35.nod, v39.nod] H40 fun v41 H42 =>
 C.aBin (Try.prog.underlying 3) .lss v41.nod (I 0) fun v43 =>
 R33 v43.nod H42) (
 R33 (B false) H7))))
 [(l2.getD 0 .junk), (l2.getD 1 .junk), (l2.getD 2 .junk), (l2.getD 3 .junk), (l2.getD 4 .junk), (l2.getD 4 .junk).nod] H3) (
 R [] H3))
 [a0, a1, a2, a3, v1] H
theorem wf112 : (Nat.ble 4 Try.f112.ntmps && wfC an112 Try.f112.ntmps (Try.f112.body.getD .skip)) = true := by kernel_rfl
theorem tie112 (C : Cb) (a0 a1 a2 a3 : V) (H : Hp) (R : List V → Hp → Prop) : wpG Try.prog C an112 (Try.f112.body.getD .skip) (argF [a0, a1, a2, a3]) H (retG Try.prog C Try.f112 R) (fun _ _ _ => False) (retG Try.prog C Try.f112 R) = vc112 C a0 a1 a2 a3 H R := by kernel_rfl
theorem mkE112 (a0 a1 a2 a3 : V) {H : Hp} {Q : V → Hp → Prop} (h : vc112 (real Try.prog) a0 a1 a2 a3 H (retW Q)) : RetE Try.prog 112 [a0, a1, a2, a3] H Q :=
 retE_mk (an := an112) hm Try.call112 Try.func112 rfl wf112 (Eq.mpr (tie112 (real Try.prog) a0 a1 a2 a3 H (retW Q)) h)
def an113 : An := { imm := [], jn := [(6, [0, 1, 4, 10, 11, 12, 50]), (10, [0, 10, 13]), (15, [0, 2, 4, 14, 15]), (18, [0, 2, 4, 14, 15, 16, 103]), (22, [0, 14, 17]), (25, [0, 1, 2, 3, 4, 18]), (32, [0, 1, 2, 3, 4, 18, 19, 20, 21]), (36, [0, 1, 2, 3, 4, 18, 19, 20, 21, 22, 23, 171]), (40, [0, 1, 2, 3, 4, 18, 20, 24, 185]), (41, [0, 1, 3, 4, 18, 20, 24]), (42, [0, 1, 3, 4, 18, 20, 24, 199]), (43, [0, 3, 4, 18, 24]), (44, [0, 3, 4, 18, 24, 213])], lp := [(3, [0, 1, 4, 10, 11]), (9, [0, 10, 13]), (15, [0, 2, 4, 14, 15]), (21, [0, 14, 17]), (33, [0, 1, 2, 3, 4, 18, 19, 20, 21, 22])], loud := [49, 101, 169], ord := [] }
def vc113 (C : Cb) (a0 a1 a2 a3 a4 : V) (H : Hp) (R : List V → Hp → Prop) : Prop :=
 C.aBin (Try.prog.underlying 3) .sub a2.nod.nod a1.nod.nod fun v1 =>
 C.aBin (Try.prog.underlying 3) .eql v1.nod (I 1) fun v2 =>
 aCond v2.nod (
 LoopA (fun l3 H4 K5 =>
 C.aBin (Try.prog.underlying 3) .lss (l3.getD 3 .junk).nod.nod (l3.getD 4 .junk).nod.nod fun v6 =>
 aCond v6.nod (
 C.aBin (Try.prog.underlying 3) .add (l3.getD 3 .junk).nod.nod (l3.getD 4 .junk).nod.nod fun v7 =>
 C.aCv (Try.prog.underlying 184) v7.nod fun v8 =>
 C.aBin (Try.prog.underlying 184) .shr v8.nod (V.imm (.int .u64 1)) fun v9 =>
 C.aCv (Try.prog.underlying 3) v9.nod fun v10 =>
 Jn (fun l11 H12 =>
 aCond (l11.getD 6 .junk).nod (
 C.aBin (Try.prog.underlying 3) .add (l11.getD 5 .junk).nod.nod (I 1) fun v14 =>
 K5 [(l11.getD 0 .junk), (l11.getD 1 .junk), (l11.getD 2 .junk), v14, (l11.getD 4 .junk)] H12) (
 K5 [(l11.getD 0 .junk), (l11.getD 1 .junk), (l11.getD 2 .junk), (l11.getD 3 .junk), (l11.getD 5 .junk).nod] H12))
 (fun R13 =>
 C.aIx 1 (l3.getD 0 .junk).nod.nod v10.nod.nod fun v15 =>
 C.aLd 1 false false v15.nod H4 fun v16 H17 =>
 C.aIx 1 (l3.getD 0 .junk).nod.nod (l3.getD 1 .junk).nod.nod fun v18 =>
 C.aLd 1 false false v18.nod H17 fun v19 H20 =>
 aCallG C (l3.getD 2 .junk).nod.nod [v16.nod, v19.nod] H20 fun v21 H22 =>
 C.aBin (Try.prog.underlying 3) .lss v21.nod (I 0) fun v23 =>
 R13 [(l3.getD 0 .junk), (l3.getD 1 .junk), (l3.getD 2 .junk), (l3.getD 3 .junk), (l3.getD 4 .junk), v10, v23] H22)) (
 LoopA (fun l24 H25 K26 =>
 C.aBin (Try.prog.underlying 3) .sub (l24.getD 1 .junk).nod.nod (I 1) fun v27 =>
 C.aBin (Try.prog.underlying 3) .lss (l24.getD 2 .junk).nod.nod v27.nod fun v28 =>
 aCond v28.nod (
 Jn (fun l29 H30 =>
 C.aBin (Try.prog.underlying 3) .add (l29.getD 2 .junk).nod.nod (I 1) fun v32 =>
 K26 [(l29.getD 0 .junk), (l29.getD 1 .junk), v32] H30)
 (fun R31 =>
 C.aBin (Try.prog.underlying 3) .add (l24.getD 2 .junk).nod.nod (I 1) fun v33 =>
 C.aBin (Try.prog.underlying 3) .add (l24.getD 2 .junk).nod.nod (I 1) fun v34 =>
 C.aIx 1 (l24.getD 0 .junk).nod.nod v34.nod fun v35 =>
 C.aLd 1 false false v35.nod H25 fun v36 H37 =>
 C.aIx 1 (l24.getD 0 .junk).nod.nod (l24.getD 2 .junk).nod.nod fun v38 =>
 C.aLd 1 false false v38.nod H37 fun v39 H40 =>
 C.aIx 1 (l24.getD 0 .junk).nod.nod (l24.getD 2 .junk).nod.nod fun v41 =>
 C.aSt 1 v41.nod v36 H40 fun v42 H43 =>
 C.aIx 1 (l24.getD 0 .junk).nod.nod v33.nod fun v44 =>
 C.aSt 1 v44.nod v39 H43 fun v45 H46 =>
 R31 [(l24.getD 0 .junk), (l24.getD 1 .junk), (l24.getD 2 .junk)] H46)) (
 R [] H25))
 [(l3.getD 0 .junk), (l3.getD 3 .junk), (l3.getD 1 .junk).nod] H4))
 [a0, a1, a4, a2.nod, a3.nod] H) (
 C.aBin (Try.prog.underlying 3) .sub a3.nod.nod a2.nod.nod fun v47 =>
 C.aBin (Try.prog.underlying 3) .eql v47.nod (I 1) fun v48 =>
 aCond v48.nod (
 Jn (fun l49 H50 =>
 LoopA (fun l52 H53 K54 =>
 C.aBin (Try.prog.underlying 3) .lss (l52.getD 3 .junk).nod.nod (l52.getD 4 .junk).nod.nod fun v55 =>
 aCond v55.nod (
 C.aBin (Try.prog.underlying 3) .add (l52.getD 3 .junk).nod.nod (l52.getD 4 .junk).nod.nod fun v56 =>
 C.aCv (Try.prog.underlying 184) v56.nod fun v57 =>
 C.aBin (Try.prog.underlying 184) .shr v57.nod (V.imm (.int .u64 1)) fun v58 =>
 C.aCv (Try.prog.underlying 3) v58.nod fun v59 =>
 Jn (fun l60 H61 =>
 aCond (l60.getD 6 .junk).nod (
 C.aBin (Try.prog.underlying 3) .add (l60.getD 5 .junk).nod.nod (I 1) fun v63 =>
 K54 [(l60.getD 0 .junk), (l60.getD 1 .junk), (l60.getD 2 .junk), v63, (l60.getD 4 .junk)] H61) (
 K54 [(l60.getD 0 .junk), (l60.getD 1 .junk), (l60.getD 2 .junk), (l60.getD 3 .junk), (l60.getD 5 .junk).nod] H61))
 (fun R62 =>
 C.aIx 1 (l52.getD 0 .junk).nod.nod (l52.getD 1 .junk).nod.nod fun v64 =>
 C.aLd 1 false false v64.nod H53 fun v65 H66 =>
 C.aIx 1 (l52.getD 0 .junk).nod.nod v59.nod.nod fun v67 =>
 C.aLd 1 false false v67.nod H66 fun v68 H69 =>
 aCallG C (l52.getD 2 .junk).nod.nod [v65.nod, v68.nod] H69 fun v70 H71 =>
 C.aBin (Try.prog.underlying 3) .lss v70.nod (I 0) fun v72 =>
 C.aUn .not v72.nod fun v73 =>
 R62 [(l52.getD 0 .junk), (l52.getD 1 .junk), (l52.getD 2 .junk), (l52.getD 3 .junk), (l52.getD 4 .junk), v59, v73] H71)) (
 LoopA (fun l74 H75 K76 =>
 C.aBin (Try.prog.underlying 3) .gtr (l74.getD 2 .junk).nod.nod (l74.getD 1 .junk).nod.nod fun v77 =>
 aCond v77.nod (
 Jn (fun l78 H79 =>
 C.aBin (Try.prog.underlying 3) .sub (l78.getD 2 .junk).nod.nod (I 1) fun v81 =>
 K76 [(l78.getD 0 .junk), (l78.getD 1 .junk), v81] H79)
 (fun R80 =>
 C.aBin (Try.prog.underlying 3) .sub (l74.getD 2 .junk).nod.nod (I 1) fun v82 =>
 C.aBin (Try.prog.underlying 3) .sub (l74.getD 2 .junk).nod.nod (I 1) fun v83 =>
 C.aIx 1 (l74.getD 0 .junk).nod.nod v83.nod fun v84 =>
 C.aLd 1 false false v84.nod H75 fun v85 H86 =>
 C.aIx 1 (l74.getD 0 .junk).nod.nod (l74.getD 2 .junk).nod.nod fun v87 =>
 C.aLd 1 false false v87.nod H86 fun v88 H89 =>
 C.aIx 1 (l74.getD 0 .junk).nod.nod (l74.getD 2 .junk).nod.nod fun v90 =>
 C.aSt 1 v90.nod v85 H89 fun v91 H92 =>
 C.aIx 1 (l74.getD 0 .junk).nod.nod v82.nod fun v93 =>
 C.aSt 1 v93.nod v88 H92 fun v94 H95 =>
 R80 [(l74.getD 0 .junk), (l74.getD 1 .junk), (l74.getD 2 .junk)] H95)) (
 R [] H75))
 [(l52.getD 0 .junk), (l52.getD 3 .junk), (l52.getD 1 .junk).nod] H53))
 [(l49.getD 0 .junk), (l49.getD 1 .junk), (l49.getD 2 .junk), (l49.getD 3 .junk), (l49.getD 4 .junk)] H50)
 (fun R51 =>
 R51 [a0, a2, a4, a1.nod, a2.nod] H)) (
 Jn (fun l96 H97 =>
 C.aBin (Try.prog.underlying 3) .add (l96.getD 5 .junk).nod.nod (l96.getD 2 .junk).nod.nod fun v99 =>
 Jn (fun l100 H101 =>
 C.aBin (Try.prog.underlying 3) .sub (l100.getD 6 .junk).nod.nod (I 1) fun v103 =>
 LoopA (fun l104 H105 K106 =>
 C.aBin (Try.prog.underlying 3) .lss (l104.getD 7 .junk).nod.nod (l104.getD 8 .junk).nod.nod fun v107 =>
 aCond v107.nod (
 C.aBin (Try.prog.underlying 3) .add (l104.getD 7 .junk).nod.nod (l104.getD 8 .junk).nod.nod fun v108 =>
 C.aCv (Try.prog.underlying 184) v108.nod fun v109 =>
 C.aBin (Try.prog.underlying 184) .shr v109.nod (V.imm (.int .u64 1)) fun v110 =>
 C.aCv (Try.prog.underlying 3) v110.nod fun v111 =>
 Jn (fun l112 H113 =>
 aCond (l112.getD 11 .junk).nod (
 C.aBin (Try.prog.underlying 3) .add (l112.getD 10 .junk).nod.nod (I 1) fun v115 =>
 K106 [(l112.getD 0 .junk), (l112.getD 1 .junk), (l112.getD 2 .junk), (l112.getD 3 .junk), (l112.getD 4 .junk), (l112.getD 5 .junk), (l112.getD 6 .junk), v115, (l112.getD 8 .junk), (l112.getD 9 .junk)] H113) (
 K106 [(l112.getD 0 .junk), (l112.getD 1 .junk), (l112.getD 2 .junk), (l112.getD 3 .junk), (l112.getD 4 .junk), (l112.getD 5 .junk), (l112.getD 6 .junk), (l112.getD 7 .junk), (l112.getD 10 .junk).nod, (l112.getD 9 .junk)] H113))
 (fun R114 =>
 C.aBin (Try.prog.underlying 3) .sub (l104.getD 9 .junk).nod.nod v111.nod.nod fun v116 =>
 C.aIx 1 (l104.getD 0 .junk).nod.nod v116.nod fun v117 =>
 C.aLd 1 false false v117.nod H105 fun v118 H119 =>
 C.aIx 1 (l104.getD 0 .junk).nod.nod v111.nod.nod fun v120 =>
 C.aLd 1 false false v120.nod H119 fun v121 H122 =>
 aCallG C (l104.getD 4 .junk).nod.nod [v118.nod, v121.nod] H122 fun v123 H124 =>
 C.aBin (Try.prog.underlying 3) .lss v123.nod (I 0) fun v125 =>
 C.aUn .not v125.nod fun v126 =>
 R114 [(l104.getD 0 .junk), (l104.getD 1 .junk), (l104.getD 2 .junk), (l104.getD 3 .junk), (l104.getD 4 .junk), (l104.getD 5 .junk), (l104.getD 6 .junk), (l104.getD 7 .junk), (l104.getD 8 .junk), (l104.getD 9 .junk), v111, v126] H124)) (
 C.aBin (Try.prog.underlying 3) .sub (l104.getD 6 .junk).nod.nod (l104.getD 7 .junk).nod.nod fun v127 =>
 Jn (fun l128 H129 =>
 Jn (fun l131 H132 =>
 Jn (fun l134 H135 =>
 aCond (l134.getD 5 .junk).nod (
 C.callE 113 [(l134.getD 0 .junk).nod.nod, (l134.getD 3 .junk).nod.nod, (l134.getD 4 .junk).nod.nod, (l134.getD 1 .junk).nod.nod, (l134.getD 2 .junk).nod.nod] H135 fun v137 H138 =>
 R [] H138) (
 R [] H135))
 (fun R136 =>
 C.aBin (Try.prog.underlying 3) .lss (l131.getD 3 .junk).nod.nod (l131.getD 4 .junk).nod.nod fun v139 =>
 Jv (fun v140 H141 =>
 R136 [(l131.getD 0 .junk), (l131.getD 1 .junk), (l131.getD 2 .junk), (l131.getD 3 .junk), (l131.getD 4 .junk), v140] H141)
 (fun R142 =>
 aG v139.nod true (
 C.aBin (Try.prog.underlying 3) .lss (l131.getD 4 .junk).nod.nod (l131.getD 1 .junk).nod.nod fun v143 =>
 R142 v143.nod H132) (
 R142 (B false) H132))))
 (fun R133 =>
 Jn (fun l144 H145 =>
 aCond (l144.getD 7 .junk).nod (
 C.callE 113 [(l144.getD 0 .junk).nod.nod, (l144.getD 1 .junk).nod.nod, (l144.getD 5 .junk).nod.nod, (l144.getD 4 .junk).nod.nod, (l144.getD 3 .junk).nod.nod] H145 fun v147 H148 =>
 R133 [(l144.getD 0 .junk), (l144.getD 2 .junk), (l144.getD 3 .junk), (l144.getD 4 .junk), (l144.getD 6 .junk)] H148) (
 R133 [(l144.getD 0 .junk), (l144.getD 2 .junk), (l144.getD 3 .junk), (l144.getD 4 .junk), (l144.getD 6 .junk)] H145))
 (fun R146 =>
 C.aBin (Try.prog.underlying 3) .lss (l128.getD 1 .junk).nod.nod (l128.getD 5 .junk).nod.nod fun v149 =>
 Jv (fun v150 H151 =>
 R146 [(l128.getD 0 .junk), (l128.getD 1 .junk), (l128.getD 2 .junk), (l128.getD 3 .junk), (l128.getD 4 .junk), (l128.getD 5 .junk), (l128.getD 6 .junk), v150] H151)
 (fun R152 =>
 aG v149.nod true (
 C.aBin (Try.prog.underlying 3) .lss (l128.getD 5 .junk).nod.nod (l128.getD 4 .junk).nod.nod fun v153 =>
 R152 v153.nod H129) (
 R152 (B false) H129)))))
 (fun R130 =>
 Jn (fun l154 H155 =>
 aCond (l154.getD 8 .junk).nod (
 C.callE 116 [(l154.getD 0 .junk).nod.nod, (l154.getD 6 .junk).nod.nod, (l154.getD 2 .junk).nod.nod, (l154.getD 7 .junk).nod.nod, (l154.getD 4 .junk).nod.nod] H155 fun v157 H158 =>
 R130 [(l154.getD 0 .junk), (l154.getD 1 .junk), (l154.getD 3 .junk), (l154.getD 4 .junk), (l154.getD 5 .junk), (l154.getD 6 .junk), (l154.getD 7 .junk)] H158) (
 R130 [(l154.getD 0 .junk), (l154.getD 1 .junk), (l154.getD 3 .junk), (l154.getD 4 .junk), (l154.getD 5 .junk), (l154.getD 6 .junk), (l154.getD 7 .junk)] H155))
 (fun R156 =>
 C.aBin (Try.prog.underlying 3) .lss (l104.getD 7 .junk).nod.nod (l104.getD 2 .junk).nod.nod fun v159 =>
 Jv (fun v160 H161 =>
 R156 [(l104.getD 0 .junk), (l104.getD 1 .junk), (l104.getD 2 .junk), (l104.getD 3 .junk), (l104.getD 4 .junk), (l104.getD 5 .junk), (l104.getD 7 .junk), v127, v160] H161)
 (fun R162 =>
 aG v159.nod true (
 C.aBin (Try.prog.underlying 3) .lss (l104.getD 2 .junk).nod.nod v127.nod.nod fun v163 =>
 R162 v163.nod H105) (
 R162 (B false) H105))))))
 [(l100.getD 0 .junk), (l100.getD 1 .junk), (l100.getD 2 .junk), (l100.getD 3 .junk), (l100.getD 4 .junk), (l100.getD 5 .junk), (l100.getD 6 .junk), (l100.getD 7 .junk), (l100.getD 8 .junk), v103] H101)
 (fun R102 =>
 C.aBin (Try.prog.underlying 3) .gtr (l96.getD 2 .junk).nod.nod (l96.getD 5 .junk).nod.nod fun v164 =>
 aCond v164.nod (
 C.aBin (Try.prog.underlying 3) .sub v99.nod.nod (l96.getD 3 .junk).nod.nod fun v165 =>
 R102 [(l96.getD 0 .junk), (l96.getD 1 .junk), (l96.getD 2 .junk), (l96.getD 3 .junk), (l96.getD 4 .junk), (l96.getD 5 .junk), v99, v165, (l96.getD 5 .junk).nod] H97) (
 R102 [(l96.getD 0 .junk), (l96.getD 1 .junk), (l96.getD 2 .junk), (l96.getD 3 .junk), (l96.getD 4 .junk), (l96.getD 5 .junk), v99, (l96.getD 1 .junk).nod, (l96.getD 2 .junk).nod] H97)))
 (fun R98 =>
 C.aBin (Try.prog.underlying 3) .add a1.nod.nod a3.nod.nod fun v166 =>
 C.aCv (Try.prog.underlying 184) v166.nod fun v167 =>
 C.aBin (Try.prog.underlying 184) .shr v167.nod (V.imm (.int .u64 1)) fun v168 =>
 C.aCv (Try.prog.underlying 3) v168.nod fun v169 =>
 R98 [a0, a1, a2, a3, a4, v169] H)))
theorem wf113 : (Nat.ble 5 Try.f113.ntmps && wfC an113 Try.f113.ntmps (Try.f113.body.getD .skip)) = true := by kernel_rfl
theorem tie113 (C : Cb) (a0 a1 a2 a3 a4 : V) (H : Hp) (R : List V → Hp → Prop) : wpG Try.prog C an113 (Try.f113.body.getD .skip) (argF [a0, a1, a2, a3, a4]) H (retG Try.prog C Try.f113 R) (fun _ _ _ => False) (retG Try.prog C Try.f113 R) = vc113 C a0 a1 a2 a3 a4 H R := by kernel_rfl
theorem mkE113 (a0 a1 a2 a3 a4 : V) {H : Hp} {Q : V → Hp → Prop} (h : vc113 (real Try.prog) a0 a1 a2 a3 a4 H (retW Q)) : RetE Try.prog 113 [a0, a1, a2, a3, a4] H Q :=
 retE_mk (an := an113) hm Try.call113 Try.func113 rfl wf113 (Eq.mpr (tie113 (real Try.prog) a0 a1 a2 a3 a4 H (retW Q)) h)
def an116 : An := { imm := [], jn := [(5, [0, 2, 4, 10, 11]), (7, [0, 2, 4, 10, 11])], lp := [(2, [0, 2, 4, 10, 11])], loud := [], ord := [] }
def vc116 (C : Cb) (a0 a1 a2 a3 a4 : V) (H : Hp) (R : List V → Hp → Prop) : Prop :=
 C.aBin (Try.prog.underlying 3) .sub a2.nod.nod a1.nod.nod fun v1 =>
 C.aBin (Try.prog.underlying 3) .sub a3.nod.nod a2.nod.nod fun v2 =>
 LoopA (fun l3 H4 K5 =>
 C.aBin (Try.prog.underlying 3) .neq (l3.getD 3 .junk).nod.nod (l3.getD 4 .junk).nod.nod fun v6 =>
 aCond v6.nod (
 C.aBin (Try.prog.underlying 3) .gtr (l3.getD 3 .junk).nod.nod (l3.getD 4 .junk).nod.nod fun v7 =>
 aCond v7.nod (
 Jn (fun l8 H9 =>
 C.aBin (Try.prog.underlying 3) .sub (l8.getD 3 .junk).nod.nod (l8.getD 4 .junk).nod.nod fun v11 =>
 K5 [(l8.getD 0 .junk), (l8.getD 1 .junk), (l8.getD 2 .junk), v11, (l8.getD 4 .junk)] H9)
 (fun R10 =>
 C.aBin (Try.prog.underlying 3) .sub (l3.getD 1 .junk).nod.nod (l3.getD 3 .junk).nod.nod fun v12 =>
 C.callE 117 [(l3.getD 0 .junk).nod.nod, v12.nod, (l3.getD 1 .junk).nod.nod, (l3.getD 4 .junk).nod.nod, (l3.getD 2 .junk).nod.nod] H4 fun v13 H14 =>
 R10 [(l3.getD 0 .junk), (l3.getD 1 .junk), (l3.getD 2 .junk), (l3.getD 3 .junk), (l3.getD 4 .junk)] H14)) (
 Jn (fun l15 H16 =>
 C.aBin (Try.prog.underlying 3) .sub (l15.getD 4 .junk).nod.nod (l15.getD 3 .junk).nod.nod fun v18 =>
 K5 [(l15.getD 0 .junk), (l15.getD 1 .junk), (l15.getD 2 .junk), (l15.getD 3 .junk), v18] H16)
 (fun R17 =>
 C.aBin (Try.prog.underlying 3) .sub (l3.getD 1 .junk).nod.nod (l3.getD 3 .junk).nod.nod fun v19 =>
 C.aBin (Try.prog.underlying 3) .add (l3.getD 1 .junk).nod.nod (l3.getD 4 .junk).nod.nod fun v20 =>
 C.aBin (Try.prog.underlying 3) .sub v20.nod (l3.getD 3 .junk).nod.nod fun v21 =>
 C.callE 117 [(l3.getD 0 .junk).nod.nod, v19.nod, v21.nod, (l3.getD 3 .junk).nod.nod, (l3.getD 2 .junk).nod.nod] H4 fun v22 H23 =>
 R17 [(l3.getD 0 .junk), (l3.getD 1 .junk), (l3.getD 2 .junk), (l3.getD 3 .junk), (l3.getD 4 .junk)] H23))) (
 C.aBin (Try.prog.underlying 3) .sub (l3.getD 1 .junk).nod.nod (l3.getD 3 .junk).nod.nod fun v24 =>
 C.callE 117 [(l3.getD 0 .junk).nod.nod, v24.nod, (l3.getD 1 .junk).nod.nod, (l3.getD 3 .junk).nod.nod, (l3.getD 2 .junk).nod.nod] H4 fun v25 H26 =>
 R [] H26))
 [a0, a2, a4, v1, v2] H
theorem wf116 : (Nat.ble 5 Try.f116.ntmps && wfC an116 Try.f116.ntmps (Try.f116.body.getD .skip)) = true := by kernel_rfl
theorem tie116 (C : Cb) (a0 a1 a2 a3 a4 : V) (H : Hp) (R : List V → Hp → Prop) : wpG Try.prog C an116 (Try.f116.body.getD .skip) (argF [a0, a1, a2, a3, a4]) H (retG Try.prog C Try.f116 R) (fun _ _ _ => False) (retG Try.prog C Try.f116 R) = vc116 C a0 a1 a2 a3 a4 H R := by kernel_rfl
theorem mkE116 (a0 a1 a2 a3 a4 : V) {H : Hp} {Q : V → Hp → Prop} (h : vc116 (real Try.prog) a0 a1 a2 a3 a4 H (retW Q)) : RetE Try.prog 116 [a0, a1, a2, a3, a4] H Q :=
 retE_mk (an := an116) hm Try.call116 Try.func116 rfl wf116 (Eq.mpr (tie116 (real Try.prog) a0 a1 a2 a3 a4 H (retW Q)) h)
def an117 : An := { imm := [], jn := [(2, [0, 1, 2, 3, 10])], lp := [(1, [0, 1, 2, 3, 10])], loud := [], ord := [] }
def vc117 (C : Cb) (a0 a1 a2 a3 a4 : V) (H : Hp) (R : List V → Hp → Prop) : Prop :=
 LoopA (fun l1 H2 K3 =>
 C.aBin (Try.prog.underlying 3) .lss (l1.getD 4 .junk).nod.nod (l1.getD 3 .junk).nod.nod fun v4 =>
 aCond v4.nod (
 Jn (fun l5 H6 =>
 C.aBin (Try.prog.underlying 3) .add (l5.getD 4 .junk).nod.nod (I 1) fun v8 =>
 K3 [(l5.getD 0 .junk), (l5.getD 1 .junk), (l5.getD 2 .junk), (l5.getD 3 .junk), v8] H6)
 (fun R7 =>
 C.aBin (Try.prog.underlying 3) .add (l1.getD 1 .junk).nod.nod (l1.getD 4 .junk).nod.nod fun v9 =>
 C.aBin (Try.prog.underlying 3) .add (l1.getD 2 .junk).nod.nod (l1.getD 4 .junk).nod.nod fun v10 =>
 C.aBin (Try.prog.underlying 3) .add (l1.getD 2 .junk).nod.nod (l1.getD 4 .junk).nod.nod fun v11 =>
 C.aIx 1 (l1.getD 0 .junk).nod.nod v11.nod fun v12 =>
 C.aLd 1 false false v12.nod H2 fun v13 H14 =>
 C.aBin (Try.prog.underlying 3) .add (l1.getD 1 .junk).nod.nod (l1.getD 4 .junk).nod.nod fun v15 =>
 C.aIx 1 (l1.getD 0 .junk).nod.nod v15.nod fun v16 =>
 C.aLd 1 false false v16.nod H14 fun v17 H18 =>
 C.aIx 1 (l1.getD 0 .junk).nod.nod v9.nod fun v19 =>
 C.aSt 1 v19.nod v13 H18 fun v20 H21 =>
 C.aIx 1 (l1.getD 0 .junk).nod.nod v10.nod fun v22 =>
 C.aSt 1 v22.nod v17 H21 fun v23 H24 =>
 R7 [(l1.getD 0 .junk), (l1.getD 1 .junk), (l1.getD 2 .junk), (l1.getD 3 .junk), (l1.getD 4 .junk)] H24)) (
 R [] H2))
 [a0, a1, a2, a3, (I 0)] H
theorem wf117 : (Nat.ble 5 Try.f117.ntmps && wfC an117 Try.f117.ntmps (Try.f117.body.getD .skip)) = true := by kernel_rfl
theorem tie117 (C : Cb) (a0 a1 a2 a3 a4 : V) (H : Hp) (R : List V → Hp → Prop) : wpG Try.prog C an117 (Try.f117.body.getD .skip) (argF [a0, a1, a2, a3, a4]) H (retG Try.prog C Try.f117 R) (fun _ _ _ => False) (retG Try.prog C Try.f117 R) = vc117 C a0 a1 a2 a3 a4 H R := by kernel_rfl
theorem mkE117 (a0 a1 a2 a3 a4 : V) {H : Hp} {Q : V → Hp → Prop} (h : vc117 (real Try.prog) a0 a1 a2 a3 a4 H (retW Q)) : RetE Try.prog 117 [a0, a1, a2, a3, a4] H Q :=
 retE_mk (an := an117) hm Try.call117 Try.func117 rfl wf117 (Eq.mpr (tie117 (real Try.prog) a0 a1 a2 a3 a4 H (retW Q)) h)
end Go.Proofs.Ytlnjhnemmemloaa
set_option linter.unusedSimpArgs false
set_option linter.unnecessarySimpa false
set_option maxHeartbeats 2000000
namespace Go.Proofs.Ytlnjhnemmemloaa
open Go Go.Ab Go.Proofs
attribute [local congr] g_bin g_nilS g_nilP g_un g_ext g_bx g_fa g_ld g_st g_ix g_ixA g_slc g_mk g_bs g_bd g_nc g_cv g_len g_lenT g_app g_appB g_cpy g_mm g_call g_callG g_calm g_calmG g_range g_res g_pick g_cond g_loop g_Jv g_eqS g_eqP g_fd g_ixT g_ta g_lkp g_upd g_mkM g_appS g_inv g_callE g_callEG g_invE g_zr g_wr
structure Jb where
 e : Int
 d : Int
deriving Inhabited, DecidableEq
abbrev jbV (j : Jb) : V := .agg [I j.e, I j.d]
theorem ix_jb (l : List Jb) (f : Fl) (i : Int) {K : V → Prop} : aIx 2 (.arr (l.map jbV) f) (I i) K = (0 ≤ i ∧ i < l.length ∧ K (.cptr (jbV (l.getD i.toNat default)))) := e_ixE jbV default (fun _ => rfl) l f i
def badJ (j : Jb) : Bool := !inB j.e 0 1073741824 || !inB j.d 0 1099511627776
def okJs (pw : Int) (l : List Jb) : Bool := inB pw 1 1073741824 && decide ((l.length : Int) ≤ 1000) && !l.any badJ
def sumE (l : List Jb) : Int := (l.map (·.e)).sum
def rdy (pw : Int) (l : List Jb) : List Int := (List.range l.length).map fun i => (sumE (l.take (i + 1)) + pw - 1).tdiv pw
theorem c102 (j : Jb) (H : Hp) : Ret Try.prog 102 [jbV j] H (B (badJ j)) H := by
 refine mk102 _ rfl (Nat.le_refl _) (.inl rfl) ?_
 simp only [vc102, real]
 repeat (first | (with_reducible first | refine Ju.go ?_ | (refine Hd.go ?_; intro K Q hK hQ; simp only [nod_agg, List.map_cons, nodL_imm, List.map_nil, e_bxI, okE_agg, lv_cons, List.length_nil, Nat.zero_add, Nat.reduceAdd, all_c, ck_I, all_n, Bool.and_self, and_true, true_and, nod_cptr, e_fac, Nat.reduceLeDiff, List.getD_cons_zero, e_ldc, nod_imm]; subst hK hQ) | refine Jr.go ?_) | refine sd ?_)
 refine call_of (c61 _ _ _ _) ?_
 repeat (first | (with_reducible first | refine Ju.go ?_ | (refine Hd.go ?_; intro K Q hK hQ; simp only [nod_imm, e_not, nod_cptr, e_fac, Nat.reduceAdd, lv_cons, List.length_nil, Nat.zero_add, Nat.reduceLeDiff, List.getD_cons_succ, List.getD_cons_zero, e_ldc, true_and, e_gF]; subst hK hQ) | refine Jr.go ?_) | refine sd ?_)
 refine jo_n (c61 _ _ _ _) ?_
 repeat (first | (with_reducible first | refine Ju.go ?_ | (refine Hd.go ?_; intro K Q hK hQ; simp only []; subst hK hQ) | refine Jr.go ?_) | refine sd ?_)
 exact end1 (fzI _)
theorem c111 (l : List Jb) (H : Hp) (hl : l.length ≤ 1000000000000) : Ret Try.prog 111 [.arr (l.map jbV) .no, .fn 102 []] H (I (idxI badJ l)) H := by
 refine mk111 _ _ rfl (Nat.le_refl _) (.inl rfl) ?_
 simp only [vc111, real]
 repeat (first | (with_reducible first | refine Ju.go ?_ | (refine Hd.go ?_; intro K Q hK hQ; simp only [nod_arr, nd_no, e_lenA, List.length_map]; subst hK hQ) | refine Jr.go ?_) | refine sd ?_)
 refine loop_of (fun i : Nat => i ≤ l.length ∧ ∀ (j : Nat) (y : Jb), j < i → l[j]? = some y → badJ y = false) (fun i => [.arr (l.map jbV) .no, .fn 102 [], I l.length, I i]) (fun _ => H) (fun i => l.length - i) 0 ⟨Nat.zero_le _, fun j y h => absurd h (Nat.not_lt_zero _)⟩ rfl rfl ?_
 intro i ⟨hi, hp⟩
 repeat (first | (with_reducible first | refine Ju.go ?_ | (refine Hd.go ?_; intro K Q hK hQ; simp only [List.getD_cons_succ, List.getD_cons_zero, nod_imm, Try.underlying3, e_lss, e_cond, decide_eq_true_eq]; subst hK hQ) | refine Jr.go ?_) | refine sd ?_)
 by_cases hlt : i < l.length
 ·have d : (i : Int) < l.length := by omega
  repeat (first | (with_reducible first | refine Ju.go ?_ | (refine Hd.go ?_; intro K Q hK hQ; simp only [d, if_true, List.getD_cons_zero, nod_arr, nd_no, List.getD_cons_succ, nod_imm, ix_jb, Int.toNat_natCast, true_and, nod_cptr, e_ldcA, lv_cons, List.length_nil, Nat.zero_add, Nat.reduceAdd, nod_fn, nod_agg, List.map_cons, nodL_imm, List.map_nil, e_callEG]; subst hK hQ) | refine Jr.go ?_) | refine sd ?_)
  refine call_of (c102 _ _) ?_
  by_cases hb : badJ (l.getD i default) = true
  ·rw [hb]
   repeat (first | (with_reducible first | refine Ju.go ?_ | (refine Hd.go ?_; intro K Q hK hQ; simp only [nod_imm, e_cond, if_true]; subst hK hQ) | refine Jr.go ?_) | refine sd ?_)
   rw [idxI_at badJ l i _ (getD_someA l default hlt) hb hp]
   exact end1 (fzI _)
  ·rw [Bool.eq_false_iff.2 hb]
   repeat (first | (with_reducible first | refine Ju.go ?_ | (refine Hd.go ?_; intro K Q hK hQ; simp only [nod_imm, e_cond, Bool.false_eq_true, if_false, List.getD_cons_succ, List.getD_cons_zero, Try.underlying3, e_add]; subst hK hQ) | refine Jr.go ?_) | refine sd ?_)
   refine ⟨i + 1, ⟨by omega, fun j y hj hy => ?_⟩, rfl, rfl, by omega⟩
   by_cases e : j = i
   ·subst e
    rw [getD_someA l default hlt] at hy
    cases hy
    exact Bool.eq_false_iff.2 hb
   ·exact hp j y (by omega) hy
 ·have d : ¬ (i : Int) < l.length := by omega
  repeat (first | (with_reducible first | refine Ju.go ?_ | (refine Hd.go ?_; intro K Q hK hQ; simp only [d, if_false]; subst hK hQ) | refine Jr.go ?_) | refine sd ?_)
  rw [idxI_none badJ l (fun j y hy => hp j y (by have := (List.getElem?_eq_some_iff.1 hy).1; omega) hy)]
  exact end1 (fzI _)
theorem c101 (l : List Jb) (H : Hp) (hl : l.length ≤ 1000000000000) : Ret Try.prog 101 [.arr (l.map jbV) .no, .fn 102 []] H (B (l.any badJ)) H := by
 refine mk101 _ _ rfl (Nat.le_refl _) (.inl rfl) ?_
 simp only [vc101, real]
 repeat (first | (with_reducible first | refine Ju.go ?_ | (refine Hd.go ?_; intro K Q hK hQ; simp only [nod_arr, nd_no, nod_fn]; subst hK hQ) | refine Jr.go ?_) | refine sd ?_)
 refine call_of (c111 l H hl) ?_
 repeat (first | (with_reducible first | refine Ju.go ?_ | (refine Hd.go ?_; intro K Q hK hQ; simp only [nod_imm, Try.underlying3, e_geq, idxI_any]; subst hK hQ) | refine Jr.go ?_) | refine sd ?_)
 exact end1 (fzI _)
theorem c84 (pw : Int) (l : List Jb) (H : Hp) (hl : l.length ≤ 9223372036854775807) : Ret Try.prog 84 [I pw, .arr (l.map jbV) .no] H (B (okJs pw l)) H := by
 refine mk84 _ _ rfl (Nat.le_refl _) (.inl rfl) ?_
 simp only [vc84, real]
 repeat (first | (with_reducible first | refine Ju.go ?_ | (refine Hd.go ?_; intro K Q hK hQ; simp only [nod_imm]; subst hK hQ) | refine Jr.go ?_) | refine sd ?_)
 refine call_of (c61 _ _ _ _) ?_
 unfold okJs
 cases h1 : inB pw 1 1073741824
 ·repeat (first | (with_reducible first | refine Ju.go ?_ | (refine Hd.go ?_; intro K Q hK hQ; simp only [nod_imm, nod_arr, nd_no, Try.underlying3, e_lenA, List.length_map, e_leq, e_gT, cond_false, j_one]; subst hK hQ) | refine Jr.go ?_) | refine sd ?_)
  exact end1 (fzI _)
 ·by_cases h2 : (l.length : Int) ≤ 1000
  ·repeat (first | (with_reducible first | refine Ju.go ?_ | (refine Hd.go ?_; intro K Q hK hQ; simp only [nod_imm, nod_arr, nd_no, Try.underlying3, e_lenA, List.length_map, e_leq, h2, decide_true, e_gT, cond_true, j_one]; subst hK hQ) | refine Jr.go ?_) | refine sd ?_)
   refine call_of (c101 l _ (by omega)) ?_
   repeat (first | (with_reducible first | refine Ju.go ?_ | (refine Hd.go ?_; intro K Q hK hQ; simp only [nod_imm, e_not]; subst hK hQ) | refine Jr.go ?_) | refine sd ?_)
   have e : (true && decide ((l.length : Int) ≤ 1000) && !l.any badJ) = !l.any badJ := by rw [decide_eq_true h2]; rfl
   rw [e]
   exact end1 (fzI _)
  ·repeat (first | (with_reducible first | refine Ju.go ?_ | (refine Hd.go ?_; intro K Q hK hQ; simp only [nod_imm, nod_arr, nd_no, Try.underlying3, e_lenA, List.length_map, e_leq, h2, decide_false, e_gT, cond_true, j_one, cond_false]; subst hK hQ) | refine Jr.go ?_) | refine sd ?_)
   have e : (true && decide ((l.length : Int) ≤ 1000) && !l.any badJ) = false := by rw [decide_eq_false h2]; rfl
   rw [e]
   exact end1 (fzI _)
theorem sumE_snoc (l : List Jb) (j : Jb) : sumE (l ++ [j]) = sumE l + j.e := by unfold sumE; simp
theorem okJs.pw {pw : Int} {l : List Jb} (h : okJs pw l = true) : (1 ≤ pw ∧ pw ≤ 1073741824) ∧ l.length ≤ 1000 ∧ ∀ j, j ∈ l → (0 ≤ j.e ∧ j.e ≤ 1073741824) ∧ 0 ≤ j.d ∧ j.d ≤ 1099511627776 := by
 unfold okJs at h
 simp only [Bool.and_eq_true, decide_eq_true_eq, Bool.not_eq_true'] at h
 refine ⟨inB_iff.1 h.1.1, by omega, fun j hj => ?_⟩
 have := List.any_eq_false.1 h.2 j hj
 unfold badJ at this
 simp only [Bool.or_eq_true, Bool.not_eq_true', not_or, Bool.not_eq_false] at this
 exact ⟨inB_iff.1 this.1, inB_iff.1 this.2⟩
theorem sumE_rng {l : List Jb} (h : ∀ j, j ∈ l → 0 ≤ j.e ∧ j.e ≤ 1073741824) : 0 ≤ sumE l ∧ sumE l ≤ l.length * 1073741824 := by
 induction l with
 | nil => exact ⟨Int.le_refl _, by decide⟩
 | cons x l ih =>
  have h1 := h x (by simp)
  have h2 := ih fun j hj => h j (by simp [hj])
  have e : sumE (x :: l) = x.e + sumE l := by unfold sumE; simp
  rw [e, List.length_cons]
  omega
theorem rdy_snoc (pw : Int) (l : List Jb) {i : Nat} (hi : i < l.length) : rdy pw (l.take (i + 1)) = rdy pw (l.take i) ++ [(sumE (l.take i) + (l.getD i default).e + pw - 1).tdiv pw] := by
 unfold rdy
 have e1 : (l.take (i + 1)).length = i + 1 := by rw [List.length_take]; omega
 have e0 : (l.take i).length = i := by rw [List.length_take]; omega
 rw [e1, e0, List.range_succ, List.map_append]
 congr 1
 ·refine List.map_congr_left fun j hj => ?_
  have := List.mem_range.1 hj
  rw [List.take_take, List.take_take, Nat.min_eq_left (by omega), Nat.min_eq_left (by omega)]
 ·rw [List.map_singleton, List.take_take, Nat.min_self, take_snocA l default hi, sumE_snoc]
theorem c85 (pw : Int) (l : List Jb) (H : Hp) (ok : okJs pw l = true) : Ret Try.prog 85 [I pw, .arr (l.map jbV) .no] H (ints (rdy pw l) .no) H := by
 obtain ⟨h1, h2, h3⟩ := okJs.pw ok
 refine mk85 _ _ rfl (Nat.le_refl _) (.inl rfl) ?_
 simp only [vc85, real]
 repeat (first | (with_reducible first | refine Ju.go ?_ | (refine Hd.go ?_; intro K Q hK hQ; simp only [nod_arr, nd_no, e_lenA, List.length_map]; subst hK hQ) | refine Jr.go ?_) | refine sd ?_)
 refine loop_of (fun i : Nat => i ≤ l.length) (fun i => [I pw, ints (rdy pw (l.take i)) (oF i), I (sumE (l.take i)), .arr (l.map jbV) .no, I l.length, I i]) (fun _ => H) (fun i => l.length - i) 0 (Nat.zero_le _) rfl rfl ?_
 intro i hi
 repeat (first | (with_reducible first | refine Ju.go ?_ | (refine Hd.go ?_; intro K Q hK hQ; simp only [List.getD_cons_succ, List.getD_cons_zero, nod_imm, Try.underlying3, e_lss, e_cond, decide_eq_true_eq]; subst hK hQ) | refine Jr.go ?_) | refine sd ?_)
 by_cases hlt : i < l.length
 ·have d : (i : Int) < l.length := by omega
  have hs := sumE_rng (l := l.take i) fun j hj => (h3 j (List.mem_of_mem_take hj)).1
  have hj := h3 _ (getD_memA l default hlt)
  have hl0 : (rdy pw (l.take i)).length ≤ 1000 := by unfold rdy; simp; omega
  rw [List.length_take] at hs
  have hs2 : sumE (l.take i) ≤ 1000 * 1073741824 := by omega
  have hp0 : pw ≠ 0 := by omega
  have ht : 0 ≤ (sumE (l.take i) + (l.getD i default).e + pw - 1).tdiv pw ∧ (sumE (l.take i) + (l.getD i default).e + pw - 1).tdiv pw ≤ sumE (l.take i) + (l.getD i default).e + pw - 1 := by
   rw [Int.tdiv_eq_ediv_of_nonneg (by omega)]
   exact ⟨Int.ediv_nonneg (by omega) (by omega), Int.ediv_le_self _ (by omega)⟩
  repeat (first | (with_reducible first | refine Ju.go ?_ | (refine Hd.go ?_; intro K Q hK hQ; simp only [d, if_true, List.getD_cons_succ, List.getD_cons_zero, nod_arr, nd_no, nod_imm, ix_jb, Int.toNat_natCast, true_and, nod_cptr, e_ldcA, lv_cons, List.length_nil, Nat.zero_add, Nat.reduceAdd, nod_agg, List.map_cons, nodL_imm, List.map_nil, e_bxI, okE_agg, all_c, ck_I, all_n, Bool.and_self, and_true, e_fac, Nat.reduceLeDiff, e_ldc, Try.underlying3, e_add, e_sub, e_quo, ne_eq, hp0, not_false_eq_true, bs1, nod_ints, nd_full, e_app, oF_ap]; subst hK hQ) | refine Jr.go ?_) | refine sd ?_)
  refine ⟨i + 1, by omega, ?_, rfl, by omega⟩
  rw [rdy_snoc pw l hlt, take_snocA l default hlt, sumE_snoc]
  rfl
 ·have d : ¬ (i : Int) < l.length := by omega
  obtain rfl : i = l.length := by omega
  repeat (first | (with_reducible first | refine Ju.go ?_ | (refine Hd.go ?_; intro K Q hK hQ; simp only [d, if_false]; subst hK hQ) | refine Jr.go ?_) | refine sd ?_)
  rw [List.take_length]
  show retF (ints (rdy pw l) .no) H [(ints (rdy pw l) (oF l.length)).nod] H
  rw [nod_ints]
  exact end1 end_any
theorem c43 (pw : Int) (l : List Jb) (H : Hp) (hl : l.length ≤ 9223372036854775807) : Ret Try.prog 43 [I pw, .arr (l.map jbV) .no] H (if okJs pw l = true then .tup [ints (rdy pw l) .no, I 0] else .tup [ints [] .no, I 2]) H := by
 refine mk43 _ _ (by split <;> rfl) (Nat.le_refl _) (.inl rfl) ?_
 simp only [vc43, real]
 repeat (first | (with_reducible first | refine Ju.go ?_ | (refine Hd.go ?_; intro K Q hK hQ; simp only [nod_imm, nod_arr, nd_no]; subst hK hQ) | refine Jr.go ?_) | refine sd ?_)
 refine call_of (c84 pw l H hl) ?_
 cases h : okJs pw l
 ·repeat (first | (with_reducible first | refine Ju.go ?_ | (refine Hd.go ?_; intro K Q hK hQ; simp only [nod_imm, e_not, Bool.not_false, e_cond, if_true]; subst hK hQ) | refine Jr.go ?_) | refine sd ?_)
  rw [if_neg (by decide)]
  exact end2 rfl rfl end_nil (fzI _)
 ·repeat (first | (with_reducible first | refine Ju.go ?_ | (refine Hd.go ?_; intro K Q hK hQ; simp only [nod_imm, e_not, Bool.not_true, e_cond, Bool.false_eq_true, if_false, nod_arr, nd_no]; subst hK hQ) | refine Jr.go ?_) | refine sd ?_)
  refine call_of (c85 pw l _ h) ?_
  repeat (first | (with_reducible first | refine Ju.go ?_ | (refine Hd.go ?_; intro K Q hK hQ; simp only []; subst hK hQ) | refine Jr.go ?_) | refine sd ?_)
  rw [if_pos rfl]
  exact end2 rfl rfl end_any (fzI _)
end Go.Proofs.Ytlnjhnemmemloaa
set_option maxHeartbeats 4000000
namespace Go.Proofs.Ytlnjhnemmemloaa
open Go Go.Ab Go.Proofs
def an15 : An := { imm := [1], jn := [(3, [1, 2, 3]), (7, [1, 2, 4, 5]), (8, [1, 4, 46]), (11, [1, 4, 6, 7, 8]), (14, [1, 6, 7, 8, 9, 10, 11, 12, 13]), (15, [1, 6, 7, 9, 10, 12, 90])], lp := [], loud := [], ord := [] }
def vc15 (C : Cb) (H : Hp) (R : List V → Hp → Prop) : Prop :=
 C.callE 51 [] H fun v1 H2 =>
 C.aBd [(I 0), (I 0)] [(0, 1, (I 1)), (1, 1, (I 2))] fun v3 =>
 C.callE 16 [v1.nod, v3.nod] H2 fun v4 H5 =>
 C.aExt 0 v4.nod.nod fun v6 =>
 C.aExt 1 v4.nod.nod fun v7 =>
 C.aBx true 6 v6.nod H5 fun v8 H9 =>
 Jn (fun l10 H11 =>
 C.aNilP (Try.prog.underlying 43) .eql (l10.getD 2 .junk).nod.nod fun v13 =>
 aCond v13.nod (
 R [(B false)] H11) (
 C.aBd [(I 0), (I 0), (I 0), (I 0), (I 0)] [(0, 1, (I 1)), (3, 1, (I 1000)), (4, 1, (I 100))] fun v14 =>
 C.callE 27 [(l10.getD 2 .junk).nod.nod, v14.nod] H11 fun v15 H16 =>
 Jn (fun l17 H18 =>
 Jn (fun l20 H21 =>
 aCond (l20.getD 2 .junk).nod (
 R [(B false)] H21) (
 C.callE 51 [] H21 fun v23 H24 =>
 C.callE 22 [(l20.getD 1 .junk).nod.nod, v23.nod] H24 fun v25 H26 =>
 Jn (fun l27 H28 =>
 C.callE 25 [(l27.getD 1 .junk).nod.nod, (I 2)] H28 fun v30 H31 =>
 C.callE 23 [(l27.getD 1 .junk).nod.nod, (I 4)] H31 fun v32 H33 =>
 C.aExt 0 v32.nod.nod fun v34 =>
 C.aExt 1 v32.nod.nod fun v35 =>
 C.aExt 2 v32.nod.nod fun v36 =>
 Jn (fun l37 H38 =>
 Jn (fun l40 H41 =>
 aCond (l40.getD 6 .junk).nod (
 R [(B false)] H41) (
 C.aFA 2 1 false (l40.getD 0 .junk).nod fun v43 =>
 C.aLd 1 false false v43.nod H41 fun v44 H45 =>
 C.aBS 1 12 (I 0) [(0, (I 1)), (1, (I 2)), (2, (I 1)), (3, (I 2)), (4, (I 3)), (5, (I 4)), (6, (I 3)), (7, (I 4)), (8, (I 5)), (9, (I 6)), (10, (I 5)), (11, (I 6))] fun v46 =>
 C.callE 24 [v44.nod, v46.nod] H45 fun v47 H48 =>
 Jv (fun v49 H50 =>
 Jv (fun v60 H61 =>
 Jv (fun v66 H67 =>
 Jv (fun v74 H75 =>
 Jv (fun v80 H81 =>
 Jv (fun v88 H89 =>
 R [v88] H89)
 (fun R90 =>
 aG v80.nod true (
 C.aBS 1 2 (I 0) [(0, (I 2)), (1, (I 4))] fun v91 =>
 C.callE 24 [(l40.getD 5 .junk).nod.nod, v91.nod] H81 fun v92 H93 =>
 R90 v92.nod H93) (
 R90 (B false) H81)))
 (fun R82 =>
 aG v74.nod true (
 C.aIx 4 (l40.getD 4 .junk).nod.nod (I 0) fun v83 =>
 C.aLd 4 true false v83.nod H75 fun v84 H85 =>
 C.aBd [(I 0), (I 0), (I 0), (V.imm (.string (ByteArray.mk #[])))] [(0, 1, (I 5)), (1, 1, (I 5))] fun v86 =>
 C.aEqS 59 .eql v84.nod v86.nod fun v87 =>
 R82 v87.nod H85) (
 R82 (B false) H75)))
 (fun R76 =>
 aG v66.nod true (
 C.aBS 1 4 (I 0) [(0, (I 2)), (1, (I 1)), (2, (I 0)), (3, (I 0))] fun v77 =>
 C.callE 24 [(l40.getD 3 .junk).nod.nod, v77.nod] H67 fun v78 H79 =>
 R76 v78.nod H79) (
 R76 (B false) H67)))
 (fun R68 =>
 aG v60.nod true (
 C.aIx 4 (l40.getD 2 .junk).nod.nod (I 1) fun v69 =>
 C.aLd 4 true false v69.nod H61 fun v70 H71 =>
 C.aBd [(I 0), (I 0), (I 0), (V.imm (.string (ByteArray.mk #[])))] [(0, 1, (I 2)), (1, 1, (I 2)), (3, 1, (V.imm (.string (ByteArray.mk #[120]))))] fun v72 =>
 C.aEqS 59 .eql v70.nod v72.nod fun v73 =>
 R68 v73.nod H71) (
 R68 (B false) H61)))
 (fun R62 =>
 aG v49.nod true (
 C.aBS 1 3 (I 0) [(0, (I 1)), (1, (I 2)), (2, (I 3))] fun v63 =>
 C.callE 24 [(l40.getD 1 .junk).nod.nod, v63.nod] H50 fun v64 H65 =>
 R62 v64.nod H65) (
 R62 (B false) H50)))
 (fun R51 =>
 aG v47.nod true (
 C.aFA 4 1 false (l40.getD 0 .junk).nod fun v52 =>
 C.aLd 1 false false v52.nod H48 fun v53 H54 =>
 C.aIx 2 v53.nod (I 0) fun v55 =>
 C.aFA 0 1 false v55.nod fun v56 =>
 C.aLd 1 false false v56.nod H54 fun v57 H58 =>
 C.aBin (Try.prog.underlying 3) .eql v57.nod (I 4) fun v59 =>
 R51 v59.nod H58) (
 R51 (B false) H48))))
 (fun R42 =>
 C.aBin (Try.prog.underlying 30) .neq (l37.getD 3 .junk).nod.nod (I 0) fun v94 =>
 Jv (fun v95 H96 =>
 Jv (fun v99 H100 =>
 Jv (fun v103 H104 =>
 Jv (fun v108 H109 =>
 R42 [(l37.getD 0 .junk), (l37.getD 1 .junk), (l37.getD 2 .junk), (l37.getD 4 .junk), (l37.getD 5 .junk), (l37.getD 7 .junk), v108] H109)
 (fun R110 =>
 aG v103.nod false (
 C.aLen (l37.getD 5 .junk).nod.nod fun v111 =>
 C.aBin (Try.prog.underlying 3) .neq v111.nod (I 1) fun v112 =>
 R110 v112.nod H104) (
 R110 (B true) H104)))
 (fun R105 =>
 aG v99.nod false (
 C.aLen (l37.getD 2 .junk).nod.nod fun v106 =>
 C.aBin (Try.prog.underlying 3) .neq v106.nod (I 2) fun v107 =>
 R105 v107.nod H100) (
 R105 (B true) H100)))
 (fun R101 =>
 aG v95.nod false (
 C.aBin (Try.prog.underlying 30) .neq (l37.getD 8 .junk).nod.nod (I 0) fun v102 =>
 R101 v102.nod H96) (
 R101 (B true) H96)))
 (fun R97 =>
 aG v94.nod false (
 C.aBin (Try.prog.underlying 30) .neq (l37.getD 6 .junk).nod.nod (I 0) fun v98 =>
 R97 v98.nod H38) (
 R97 (B true) H38))))
 (fun R39 =>
 C.aBd [(I 0), (I 0)] [(0, 1, (I 3))] fun v113 =>
 C.aBd [(I 0), (I 0)] [(0, 1, (I 4))] fun v114 =>
 C.aBS 2 2 (V.agg [(I 0), (I 0)]) [(0, v113.nod), (1, v114.nod)] fun v115 =>
 C.callE 43 [(I 2), v115.nod] H33 fun v116 H117 =>
 C.aExt 0 v116.nod.nod fun v118 =>
 C.aExt 1 v116.nod.nod fun v119 =>
 R39 [(l27.getD 0 .junk), (l27.getD 2 .junk), (l27.getD 3 .junk), (l27.getD 4 .junk), v34, v35, v36, v118, v119] H117))
 (fun R29 =>
 C.callE 23 [(l20.getD 1 .junk).nod.nod, (I 3)] H26 fun v120 H121 =>
 C.aExt 0 v120.nod.nod fun v122 =>
 C.aExt 1 v120.nod.nod fun v123 =>
 C.aExt 2 v120.nod.nod fun v124 =>
 R29 [(l20.getD 0 .junk), (l20.getD 1 .junk), v122, v123, v124] H121)))
 (fun R22 =>
 C.aBin (Try.prog.underlying 30) .neq (l17.getD 1 .junk).nod.nod (I 0) fun v125 =>
 Jv (fun v126 H127 =>
 Jv (fun v130 H131 =>
 Jv (fun v134 H135 =>
 R22 [(l17.getD 0 .junk), (l17.getD 2 .junk), v134] H135)
 (fun R136 =>
 aG v130.nod false (
 C.aFA 4 1 false (l17.getD 0 .junk).nod fun v137 =>
 C.aLd 1 false false v137.nod H131 fun v138 H139 =>
 C.aLen v138.nod fun v140 =>
 C.aBin (Try.prog.underlying 3) .neq v140.nod (I 1) fun v141 =>
 R136 v141.nod H139) (
 R136 (B true) H131)))
 (fun R132 =>
 aG v126.nod false (
 C.aNilP (Try.prog.underlying 44) .eql (l17.getD 2 .junk).nod.nod fun v133 =>
 R132 v133.nod H127) (
 R132 (B true) H127)))
 (fun R128 =>
 aG v125.nod false (
 C.aBin (Try.prog.underlying 30) .neq (l17.getD 3 .junk).nod.nod (I 0) fun v129 =>
 R128 v129.nod H18) (
 R128 (B true) H18))))
 (fun R19 =>
 C.callE 39 [(l10.getD 2 .junk).nod.nod] H16 fun v142 H143 =>
 C.aExt 0 v142.nod.nod fun v144 =>
 C.aExt 1 v142.nod.nod fun v145 =>
 R19 [(l10.getD 0 .junk), (l10.getD 1 .junk), v144, v145] H143)))
 (fun R12 =>
 C.callE 26 [] H9 fun v146 H147 =>
 R12 [v8, v7, v146] H147)
theorem wf15 : (Nat.ble 0 Try.f15.ntmps && wfC an15 Try.f15.ntmps (Try.f15.body.getD .skip)) = true := by kernel_rfl
theorem tie15 (C : Cb) (H : Hp) (R : List V → Hp → Prop) : wpG Try.prog C an15 (Try.f15.body.getD .skip) (argF []) H (retG Try.prog C Try.f15 R) (fun _ _ _ => False) (retG Try.prog C Try.f15 R) = vc15 C H R := by kernel_rfl
theorem mkE15 {H : Hp} {Q : V → Hp → Prop} (h : vc15 (real Try.prog) H (retW Q)) : RetE Try.prog 15 [] H Q :=
 retE_mk (an := an15) hm Try.call15 Try.func15 rfl wf15 (Eq.mpr (tie15 (real Try.prog) H (retW Q)) h)
end Go.Proofs.Ytlnjhnemmemloaa
set_option maxHeartbeats 2000000
namespace Go.Proofs.Ytlnjhnemmemloaa
open Go Go.Ab Go.Proofs
attribute [local congr] g_bin g_nilS g_nilP g_un g_ext g_bx g_fa g_ld g_st g_ix g_ixA g_slc g_mk g_bs g_bd g_nc g_cv g_len g_lenT g_app g_appB g_cpy g_mm g_call g_callG g_calm g_calmG g_range g_res g_pick g_cond g_loop g_Jv g_eqS g_eqP g_fd g_ixT g_ta g_lkp g_upd g_mkM g_appS g_inv g_callE g_callEG g_invE g_zr g_wr
def g00 : Gn := ⟨1, 0, 0, 1000, 100⟩
def mK1 : Mo := mIns 0 smp (mo0 [⟨g00, false, 0⟩])
def mK2 : Mo := mStop 2 (mPull 3 mK1).2.1
theorem kSp : okSp smp = true := by decide +kernel
theorem kPd : pdS smp ⟨1, 2⟩ = ⟨1, 1, [1, 2, 1, 2, 3, 4, 3, 4, 5, 6, 5, 6], [], [⟨4, xN⟩], 0⟩ := by decide +kernel
theorem kGn : okGn g00 = true := by decide +kernel
theorem kX3 : (mPull 3 mK1).1 = [1, 2, 3] := by decide +kernel
theorem kN3 : (mPull 3 mK1).2.2 = [⟨1, 0, 0, ByteArray.empty⟩, ⟨2, 2, 0, xN⟩] := by decide +kernel
theorem kX4 : (mPull 4 mK2).1 = [2, 1, 0, 0] := by decide +kernel
theorem kN4 : (mPull 4 mK2).2.2 = [⟨5, 5, 0, ByteArray.empty⟩] := by decide +kernel
theorem kJs : okJs 2 [⟨3, 0⟩, ⟨4, 0⟩] = true := by decide +kernel
theorem kRd : rdy 2 [⟨3, 0⟩, ⟨4, 0⟩] = [2, 4] := by decide +kernel
theorem smSmp : Sm smp := ⟨by decide, by decide, by decide, fun g hg => by
 simp only [smp, List.mem_singleton] at hg
 subst hg
 decide⟩
theorem srt_sub {l k : List Sgn} (h : l.Sublist k) : Srt k → Srt l := by
 induction h with
 | slnil => exact fun _ => trivial
 | cons a _ ih => exact fun hk => ih hk.2
 | cons_cons a hs ih => exact fun hk => ⟨fun x hx => hk.1 x (hs.mem hx), ih hk.2⟩
theorem srt_tw {p : Sgn → Bool} {l : List Sgn} (h : Srt l) : Srt (l.takeWhile p) := srt_sub (List.takeWhile_sublist _) h
theorem fade_le {x k c : Int} (h0 : 0 ≤ k) (hk : k ≤ c) (hc : 0 < c) (hx : -32768 ≤ x ∧ x ≤ 32767) : -32768 ≤ (x * k).tdiv c ∧ (x * k).tdiv c ≤ 32767 := by
 have pos : ∀ y : Int, 0 ≤ y → 0 ≤ (y * k).tdiv c ∧ (y * k).tdiv c ≤ y := fun y hy => by
  have h1 : 0 ≤ y * k := Int.mul_nonneg hy h0
  rw [Int.tdiv_eq_ediv_of_nonneg h1]
  exact ⟨Int.ediv_nonneg h1 (by omega), Int.ediv_le_of_le_mul hc (Int.mul_le_mul_of_nonneg_left hk hy)⟩
 by_cases h : 0 ≤ x
 ·have := pos x h; omega
 ·have := pos (-x) (by omega)
  have e : (x * k).tdiv c = -((-x * k).tdiv c) := by rw [Int.neg_mul, Int.neg_tdiv, Int.neg_neg]
  rw [e]; omega
theorem Mok.stop {m : Mo} (h : Mok m) (n : Nat) : Mok (mStop n m) := by
 unfold mStop
 split
 ·exact h
 ·rename_i h1
  have h0 : m.st ≠ 0 := fun e => h1 (.inl e)
  have hl : ¬ m.os.length ≤ m.sd + n := fun e => h1 (.inr e)
  have eL : (m.os.take m.sd ++ fdL m.os m.sd n).length = m.sd + n := by rw [List.length_append, List.length_take, fdL_len]; omega
  have hol := h.ol h0
  refine ⟨h.gs, h.gl, h.q, h.ql, h.k, h.c0, h.c1, .inr (.inr rfl), fun _ => by show (m.os.take m.sd ++ fdL m.os m.sd n).length ≤ _; omega, fun _ => by show m.sd ≤ (m.os.take m.sd ++ fdL m.os m.sd n).length; omega, fun _ x hx => ?_, fun _ => ?_, fun _ g hg => ?_, fun _ => ?_⟩
  ·rcases List.mem_append.1 hx with hx | hx
   ·exact h.ov h0 x (List.mem_of_mem_take hx)
   ·unfold fdL at hx
    obtain ⟨i, hi, rfl⟩ := List.mem_map.1 hx
    have := List.mem_range.1 hi
    exact fade_le (by omega) (by omega) (by omega) (h.ov h0 _ (hMem m.os (by omega)))
  ·have := h.sl h0
   have h2 := List.length_filter_le (fun g : Sgn => decide (g.a < ((m.sd + n : Nat) : Int))) m.sg
   show (m.sg.filter fun g => decide (g.a < ((m.sd + n : Nat) : Int))).length ≤ 50
   omega
  ·have hg' : g ∈ m.sg.filter fun g => decide (g.a < ((m.sd + n : Nat) : Int)) := hg
   rw [List.mem_filter, decide_eq_true_eq] at hg'
   have := h.sg h0 g hg'.1
   refine ⟨this.1, ?_⟩
   show g.a ≤ ((m.os.take m.sd ++ fdL m.os m.sd n).length : Int)
   omega
  ·show Srt (m.sg.filter fun g => decide (g.a < ((m.sd + n : Nat) : Int)))
   have := h.so h0
   rw [filter_tw this]
   exact srt_tw this
theorem bs12 (a b c d e f g h i j k l z : Int) (K : V → Prop) : aBS 1 12 (I z) [(0, I a), (1, I b), (2, I c), (3, I d), (4, I e), (5, I f), (6, I g), (7, I h), (8, I i), (9, I j), (10, I k), (11, I l)] K = K (ints [a, b, c, d, e, f, g, h, i, j, k, l] .full) := by
 simp [aBS, aPs, setP, okE_I, ints, List.replicate]
theorem bs4 (a b c d z : Int) (K : V → Prop) : aBS 1 4 (I z) [(0, I a), (1, I b), (2, I c), (3, I d)] K = K (ints [a, b, c, d] .full) := by
 simp [aBS, aPs, setP, okE_I, ints, List.replicate]
theorem bsI2 (a b z : Int) (K : V → Prop) : aBS 1 2 (I z) [(0, I a), (1, I b)] K = K (ints [a, b] .full) := by
 simp [aBS, aPs, setP, okE_I, ints, List.replicate]
theorem ix4b {x y : V} {f : Fl} (hx : y.cl.length = 4) {K : V → Prop} : aIx 4 (.arr [x, y] f) (I 1) K = K (.cptr y) := by
 show (0 ≤ (1 : Int) ∧ (1 : Int) < ((2 : Nat) : Int) ∧ y.cl.length = 4 ∧ K (.cptr y)) = _
 exact propext ⟨fun h => h.2.2.2, fun h => ⟨by omega, by omega, hx, h⟩⟩
theorem ix4a {x : V} {f : Fl} (hx : x.cl.length = 4) {K : V → Prop} : aIx 4 (.arr [x] f) (I 0) K = K (.cptr x) := by
 show (0 ≤ (0 : Int) ∧ (0 : Int) < ((1 : Nat) : Int) ∧ x.cl.length = 4 ∧ K (.cptr x)) = _
 exact propext ⟨fun h => h.2.2.2, fun h => ⟨by omega, by omega, hx, h⟩⟩
theorem ix2o {x : V} {f : Fl} (hx : x.cl.length = 2) {K : V → Prop} : aIx 2 (.arr [x] f) (I 0) K = K (.cptr x) := by
 show (0 ≤ (0 : Int) ∧ (0 : Int) < ((1 : Nat) : Int) ∧ x.cl.length = 2 ∧ K (.cptr x)) = _
 exact propext ⟨fun h => h.2.2.2, fun h => ⟨by omega, by omega, hx, h⟩⟩
theorem cut64 (a b c d e f : V) : cutA 4 1 false [a, b, c, d, e, f] = e := rfl
theorem c15 (H : Hp) : RetE Try.prog 15 [] H fun v H' => v = B true ∧ Fr H H' (fun _ => False) := by
 refine mkE15  ?_
 simp only [vc15, real]
 repeat (first | (with_reducible first | refine Ju.go ?_ | (refine Hd.go ?_; intro K Q hK hQ; simp only []; subst hK hQ) | refine Jr.go ?_) | refine sd ?_)
 refine call_of (c51 _) ?_
 repeat (first | (with_reducible first | refine Ju.go ?_ | (refine Hd.go ?_; intro K Q hK hQ; simp only [e_bd1, okE_I, Nat.zero_add, lv_cons, List.length_nil, Nat.reduceAdd, Nat.reduceLeDiff, cl_imm, spl_0, spl_n, spl_s, e_bd0, true_and, nod_agg, List.map_cons, nodL_imm, nodL_ints, nd_no, nodL_arr, List.map_nil]; subst hK hQ) | refine Jr.go ?_) | refine sd ?_)
 refine call_of (c16 smp ⟨1, 2⟩ _ smSmp) ?_
 rw [if_pos (show (okSp smp && okPc ⟨1, 2⟩) = true by rw [kSp]; rfl), kPd]
 repeat (first | (with_reducible first | refine Ju.go ?_ | (refine Hd.go ?_; intro K Q hK hQ; simp only [nod_tup, List.map_cons, nod2_agg, List.map_nil, nodL_imm, nodL_ints, nd_no, nodL_arr, nod2_imm, e_x20, e_x21, nod_agg, e_bxI, okE_agg, lv_cons, List.length_nil, Nat.zero_add, Nat.reduceAdd, all_c, ck_I, ck_ints, ck_arr, all_n, Bool.and_self, and_true, true_and]; subst hK hQ) | refine Jr.go ?_) | refine sd ?_)
 refine callE_of (c26 _) ?_
 rintro v H1 ⟨rfl, rfl⟩
 have ld0 : LdAt (H ++ [Blk.cells [B true, .arr [] .full]]) H.length 0 [] := ⟨tail0 _ _, fun e => absurd rfl e, fun e => absurd rfl e⟩
 have kf0 : Fr H (H ++ [Blk.cells [B true, .arr [] .full]]) (fun _ => False) := Fr.app _ _ _
 have hl0 : (H ++ [Blk.cells [B true, .arr [] .full]]).length = H.length + 1 := by simp
 generalize H ++ [Blk.cells [B true, .arr [] .full]] = G0 at *
 repeat (first | (with_reducible first | refine Ju.go ?_ | (refine Hd.go ?_; intro K Q hK hQ; simp only [List.getD_cons_succ, List.getD_cons_zero, nod_ptr, Try.underlying43, e_npeP, nod_imm, e_cond, Bool.false_eq_true, if_false, e_bd1, okE_I, Nat.zero_add, lv_cons, List.length_nil, Nat.reduceAdd, Nat.reduceLeDiff, cl_imm, spl_0, spl_n, spl_s, e_bd0, true_and, nod_agg, List.map_cons, nodL_imm, List.map_nil]; subst hK hQ) | refine Jr.go ?_) | refine sd ?_)
 refine callE_of (c27 H.length 0 [] g00 G0 ld0 (by decide)) ?_
 rintro v G1 hq
 rw [if_pos kGn, if_pos (show ([] : List Gr).length < 500 by decide)] at hq
 obtain ⟨rfl, ⟨g', ld1, hg'⟩, kf1⟩ := hq
 rw [List.nil_append] at ld1
 repeat (first | (with_reducible first | refine Ju.go ?_ | (refine Hd.go ?_; intro K Q hK hQ; simp only [List.getD_cons_succ, List.getD_cons_zero, nod_ptr]; subst hK hQ) | refine Jr.go ?_) | refine sd ?_)
 refine callE_of (c39 H.length g' _ G1 ld1) ?_
 rintro v G2 ⟨rfl, kf2, a2, -, sp2, hS2⟩
 repeat (first | (with_reducible first | refine Ju.go ?_ | (refine Hd.go ?_; intro K Q hK hQ; simp only [nod_tup, List.map_cons, nod2_imm, List.map_nil, e_x20, e_x21, List.getD_cons_zero, List.getD_cons_succ, nod_imm, Try.underlying30, e_neq, decide_true, Bool.not_true, e_gF, cond_false, j_one, nod_nod, Try.underlying44, cut64, nod_cptr, e_ldcV, nod_arr, nd_no, e_lenA, lv_cons, List.length_nil, Nat.zero_add, Int.cast_ofNat_Int, Try.underlying3, e_cond, Bool.false_eq_true, if_false]; subst hK hQ) | refine Jr.go ?_) | refine sd ?_)
 refine call_of (c51 _) ?_
 repeat (first | (with_reducible first | refine Ju.go ?_ | (refine Hd.go ?_; intro K Q hK hQ; simp only [List.getD_cons_succ, List.getD_cons_zero, nod_nod, nod_agg, List.map_cons, nodL_imm, nodL_ints, nd_no, nodL_arr, List.map_nil]; subst hK hQ) | refine Jr.go ?_) | refine sd ?_)
 refine callE_of (c22 smp smSmp sp2 (by decide) ⟨by decide, by decide⟩) ?_
 rintro v G3 hq
 rw [if_pos kSp] at hq
 obtain ⟨rfl, a3, st3⟩ := hq
 have e1 : mIns (mo0 [⟨g00, false, 0⟩]).q.length smp (mo0 [⟨g00, false, 0⟩]) = mK1 := rfl
 rw [e1] at st3
 have mk1 : Mok mK1 := by
  have h0 := mo0_ok (gs := [⟨g00, false, 0⟩]) (fun g hg => by
   simp only [List.mem_singleton] at hg
   subst hg
   exact ⟨by decide, by decide, by decide, by decide⟩) (by decide)
  exact ⟨h0.gs, h0.gl, fun x hx => by
   have hx' : x ∈ [(⟨smp, 0, 0⟩ : Qd)] := hx
   simp only [List.mem_singleton] at hx'
   subst hx'
   exact ⟨kSp, by decide, by decide⟩, by decide, h0.k, h0.c0, h0.c1, h0.st, h0.ol, h0.od, h0.ov, h0.sl, h0.sg, h0.so⟩
 repeat (first | (with_reducible first | refine Ju.go ?_ | (refine Hd.go ?_; intro K Q hK hQ; simp only [List.getD_cons_succ, List.getD_cons_zero, nod_nod]; subst hK hQ) | refine Jr.go ?_) | refine sd ?_)
 refine callE_of (c23 3 st3.s mk1 (fun _ => by decide)) ?_
 rintro v G4 hq
 rw [if_pos (show inB 3 0 100000 = true from rfl)] at hq
 obtain ⟨⟨f4, h4, hf4, hh4, rfl⟩, ⟨a4, st4⟩, mk4, ck4, -⟩ := hq
 have z3 : (3 : Int).toNat = 3 := rfl
 rw [z3] at st4 mk4 ck4
 rw [z3, kX3, kN3]
 repeat (first | (with_reducible first | refine Ju.go ?_ | (refine Hd.go ?_; intro K Q hK hQ; simp only [List.map_cons, List.map_nil, nod_tup, nod2_ints, nod2_imm, e_x30, e_x31, e_x32, List.getD_cons_zero, List.getD_cons_succ, nod_nod]; subst hK hQ) | refine Jr.go ?_) | refine sd ?_)
 refine callE_of (c25 2 st4.s mk4) ?_
 rintro v G5 hq
 rw [if_pos (show inB 2 0 10000 = true from rfl)] at hq
 obtain ⟨rfl, st5⟩ := hq
 have z2 : (2 : Int).toNat = 2 := rfl
 rw [z2] at st5
 have nd4 : f4.nd = f4 := by rcases hf4 with rfl | rfl <;> rfl
 have na4 : ∀ l, (V.arr l h4).nod2 = V.arr l h4 := fun l => by rcases hh4 with rfl | rfl <;> rfl
 have nb4 : ∀ l, (V.arr l h4).nod = V.arr l h4 := fun l => by rcases hh4 with rfl | rfl <;> rfl
 have e5 : mStop 2 (mPull 3 mK1).2.1 = mK2 := rfl
 have mk5 := mk4.stop 2
 rw [e5] at st5 mk5
 have ck5 : mK2.ck = 3 := by decide +kernel
 repeat (first | (with_reducible first | refine Ju.go ?_ | (refine Hd.go ?_; intro K Q hK hQ; simp only [nd4, na4, List.getD_cons_succ, List.getD_cons_zero, nod_nod]; subst hK hQ) | refine Jr.go ?_) | refine sd ?_)
 refine callE_of (c23 4 st5.s mk5 (fun _ => by rw [ck5]; decide)) ?_
 rintro v G6 hq
 rw [if_pos (show inB 4 0 100000 = true from rfl)] at hq
 obtain ⟨⟨f6, h6, hf6, hh6, rfl⟩, ⟨a6, st6⟩, mk6, ck6, -⟩ := hq
 have z4 : (4 : Int).toNat = 4 := rfl
 rw [z4] at st6
 rw [z4, kX4, kN4]
 have nd6 : f6.nd = f6 := by rcases hf6 with rfl | rfl <;> rfl
 have na6 : ∀ l, (V.arr l h6).nod2 = V.arr l h6 := fun l => by rcases hh6 with rfl | rfl <;> rfl
 have nb6 : ∀ l, (V.arr l h6).nod = V.arr l h6 := fun l => by rcases hh6 with rfl | rfl <;> rfl
 have bsJ : ∀ K, aBS 2 2 (V.agg [I 0, I 0]) [(0, .agg [I 3, I 0]), (1, .agg [I 4, I 0])] K = K (.arr ([(⟨3, 0⟩ : Jb), ⟨4, 0⟩].map jbV) .full) := fun K => by
  have h1 : okE 2 (.agg [I 3, I 0]) = True := eq_true ⟨rfl, fun d hc => by
   simp only [V.cl, List.mem_cons, List.not_mem_nil, or_false] at hc
   rcases hc with rfl | rfl <;> rfl⟩
  have h2 : okE 2 (.agg [I 4, I 0]) = True := eq_true ⟨rfl, fun d hc => by
   simp only [V.cl, List.mem_cons, List.not_mem_nil, or_false] at hc
   rcases hc with rfl | rfl <;> rfl⟩
  simp [aBS, aPs, setP, h1, h2]
 repeat (first | (with_reducible first | refine Ju.go ?_ | (refine Hd.go ?_; intro K Q hK hQ; simp only [List.map_cons, List.map_nil, nod_tup, nod2_ints, nd6, na6, nod2_imm, e_x30, e_x31, e_x32, e_bd1, okE_I, Nat.zero_add, lv_cons, List.length_nil, Nat.reduceAdd, Nat.reduceLeDiff, cl_imm, spl_0, spl_n, e_bd0, true_and, nod_agg, nodL_imm, bsJ, nod_arr, nd_full]; subst hK hQ) | refine Jr.go ?_) | refine sd ?_)
 refine call_wk (c43 2 [⟨3, 0⟩, ⟨4, 0⟩] _ (by decide)) (.cons (.refl _) (.cons (.full _) .nil)) ?_
 rw [if_pos kJs, kRd]
 have i4b : ∀ K, aIx 4 (.arr [nwV ⟨1, 0, 0, ByteArray.empty⟩, nwV ⟨2, 2, 0, xN⟩] h4) (I 1) K = K (.cptr (nwV ⟨2, 2, 0, xN⟩)) := fun K => ix4b rfl
 have i4a : ∀ K, aIx 4 (.arr [nwV ⟨5, 5, 0, ByteArray.empty⟩] h6) (I 0) K = K (.cptr (nwV ⟨5, 5, 0, ByteArray.empty⟩)) := fun K => ix4a rfl
 have i2o : ∀ K, aIx 2 (.arr [sgV ⟨4, xN⟩] .no) (I 0) K = K (.cptr (sgV ⟨4, xN⟩)) := fun K => ix2o rfl
 have q1 : ∀ K, aEqS Try.prog 59 .eql (.agg [I 2, I 2, I 0, T xN]) (.agg [I 2, I 2, I 0, T (ByteArray.mk #[120])]) K = K (B true) := fun K => (eq59 ⟨2, 2, 0, xN⟩ ⟨2, 2, 0, xN⟩).trans (by rw [decide_eq_true rfl])
 have q2 : ∀ K, aEqS Try.prog 59 .eql (.agg [I 5, I 5, I 0, T ByteArray.empty]) (.agg [I 5, I 5, I 0, T (ByteArray.mk #[])]) K = K (B true) := fun K => (eq59 ⟨5, 5, 0, ByteArray.empty⟩ ⟨5, 5, 0, ByteArray.empty⟩).trans (by rw [decide_eq_true rfl])
 repeat (first | (with_reducible first | refine Ju.go ?_ | (refine Hd.go ?_; intro K Q hK hQ; simp only [nod_tup, List.map_cons, nod2_ints, nd_no, nod2_imm, List.map_nil, e_x20, e_x21, nd4, na4, List.getD_cons_zero, List.getD_cons_succ, nod_imm, Try.underlying30, e_neq, decide_true, Bool.not_true, e_gF, cond_false, j_one, nb4, e_lenA, lv_cons, List.length_nil, Nat.zero_add, Nat.reduceAdd, Int.cast_ofNat_Int, Try.underlying3, nb6, e_cond, Bool.false_eq_true, if_false, nod_cptr, e_fac, Nat.reduceLeDiff, true_and, e_ldci, bs12, nod_ints, nd_full]; subst hK hQ) | refine Jr.go ?_) | refine sd ?_)
 refine call_of (c24 [1, 2, 1, 2, 3, 4, 3, 4, 5, 6, 5, 6] [1, 2, 1, 2, 3, 4, 3, 4, 5, 6, 5, 6] .no .full _ (by decide) (.inl rfl) (.inr rfl)) ?_
 rw [decide_eq_true rfl]
 repeat (first | (with_reducible first | refine Ju.go ?_ | (refine Hd.go ?_; intro K Q hK hQ; simp only [nod_imm, List.getD_cons_zero, nod_cptr, Try.underlying3, e_fac, Nat.reduceAdd, lv_cons, List.length_nil, Nat.zero_add, Nat.reduceLeDiff, List.getD_cons_succ, e_ldcV, nod_arr, nd_no, i2o, e_ldc, e_eql, decide_true, true_and, e_gT, cond_true, j_one, nod_ints, nd4, bs3, nd_full]; subst hK hQ) | refine Jr.go ?_) | refine sd ?_)
 refine call_of (c24 [1, 2, 3] [1, 2, 3] f4 .full _ (by decide) hf4 (.inr rfl)) ?_
 rw [decide_eq_true rfl]
 repeat (first | (with_reducible first | refine Ju.go ?_ | (refine Hd.go ?_; intro K Q hK hQ; simp only [nod_imm, List.getD_cons_succ, List.getD_cons_zero, nb4, i4b, nod_cptr, e_bd1, okE_I, Nat.zero_add, lv_cons, List.length_nil, Nat.reduceAdd, Nat.reduceLeDiff, cl_imm, spl_0, spl_n, spl_s, okE_str, e_bd0, nod_agg, List.map_cons, nodL_imm, List.map_nil, true_and, e_ldcA, q1, e_gT, cond_true, j_one, nod_ints, nd6, bs4, nd_full]; subst hK hQ) | refine Jr.go ?_) | refine sd ?_)
 refine call_of (c24 [2, 1, 0, 0] [2, 1, 0, 0] f6 .full _ (by decide) hf6 (.inr rfl)) ?_
 rw [decide_eq_true rfl]
 repeat (first | (with_reducible first | refine Ju.go ?_ | (refine Hd.go ?_; intro K Q hK hQ; simp only [nod_imm, List.getD_cons_succ, List.getD_cons_zero, nb6, i4a, nod_cptr, e_bd1, okE_I, Nat.zero_add, lv_cons, List.length_nil, Nat.reduceAdd, Nat.reduceLeDiff, cl_imm, spl_0, spl_n, spl_s, e_bd0, nod_agg, List.map_cons, nodL_imm, List.map_nil, true_and, e_ldcA, q2, e_gT, cond_true, j_one, nod_ints, nd_no, bsI2, nd_full]; subst hK hQ) | refine Jr.go ?_) | refine sd ?_)
 refine call_of (c24 [2, 4] [2, 4] .no .full _ (by decide) (.inl rfl) (.inr rfl)) ?_
 rw [decide_eq_true rfl]
 repeat (first | (with_reducible first | refine Ju.go ?_ | (refine Hd.go ?_; intro K Q hK hQ; simp only [nod_imm]; subst hK hQ) | refine Jr.go ?_) | refine sd ?_)
 refine endW ⟨rfl, ?_⟩
 have hl1 := kf1.1
 have hl2 := kf2.1
 have hl3 := st3.h.1
 have hl4 := st4.h.1
 have l2 : ∀ c, c < H.length → ¬ SpS (G1.length + 2) a2 (mo0 [⟨g00, false, 0⟩]) c := fun c hc hs => by
  rcases hS2 c (by omega) hs with e | ⟨e, -⟩
  ·omega
  ·omega
 have l3 : ∀ c, c < H.length → ¬ SpS (G1.length + 2) a3 mK1 c := fun c hc hs => l2 c hc (st3.f c (by omega) hs)
 have l4 : ∀ c, c < H.length → ¬ SpS (G1.length + 2) a4 (mPull 3 mK1).2.1 c := fun c hc hs => l3 c hc (st4.f c (by omega) hs)
 have l5 : ∀ c, c < H.length → ¬ SpS (G1.length + 2) a4 mK2 c := fun c hc hs => l4 c hc (st5.f c (by omega) hs)
 have up : ∀ {A B : Hp} {S : Nat → Prop}, Fr A B S → (∀ c, c < H.length → ¬ S c) → Fr A B (fun c => H.length ≤ c) := fun h k => h.mono fun c _ hs => Nat.le_of_not_lt fun hc => k c hc hs
 have all := ((((((up kf0 fun _ _ e => e).trans (up kf1 fun c hc e => by
  rcases e with e | ⟨-, e⟩
  ·omega
  ·exact e rfl)).trans (up kf2 fun _ _ e => e)).trans (up st3.h l2)).trans (up st4.h l3)).trans (up st5.h l4)).trans (up st6.h l5)
 exact all.mono fun c hc hs => by omega
theorem argF_nd {args : List V} (hn : ∀ a, a ∈ args → a.Nd) (i : Nat) : (argF args i).Nd := by
 unfold argF
 rw [List.getD_eq_getElem?_getD]
 cases h : args[i]? with
 | none => rfl
 | some v => exact hn v (List.mem_of_getElem? h)
def sg0 (w : World) : Sg := ⟨0, fun _ => 0, fun rb => (cellsAt w rb).size⟩
theorem bridge {P : Program} {f : Nat} {args : List V} {ra : Array Value} {w : World} (h : Ret P f args [] (B true) []) (hl : args.length = ra.size) (hn : ∀ a, a ∈ args → a.Nd)
    (hr : ∀ i, Rel (sg0 w) w (argF args i) (ra.getD i undef)) : Calls P f ra w fun e w' => e = .returned (.bool true) ∧ Go.RowKit.Below w.heap.size w w' := by
  have no : ∀ (p : Go.Ab.Pl) (x : Value) (rb : Nat), ¬ OwnB (Go.Ab.pv (argF args) [] p) x rb := by
    intro p x rb ho
    cases p with
    | s i j => exact not_own_Nd (argF_nd hn i) ho
    | h b j => exact not_own_junk ho
  have st : St (sg0 w) w (argF args) ra [] :=
    { frame := hr
      hn := rfl
      heap := fun b blk hb => by simp at hb
      inj := fun b b' blk blk' hb => by simp at hb
      lt := fun b hb => absurd hb (Nat.not_lt_zero _)
      tip0 := fun b blk hb => by simp at hb
      tipz := fun rb hb => by
        show (cellsAt w rb).size = 0
        have : w.heap[rb]? = none := Array.getElem?_eq_none hb
        unfold cellsAt
        rw [this]
        rfl
      own1 := fun p rb ho => absurd ho (no _ _ _)
      own2 := fun p q rb ho => absurd ho (no _ _ _) }
  refine (h.2 (sg0 w) w ra hl st hn).mono fun e w' he => ?_
  obtain ⟨x, σ', rfl, s2, t⟩ := he
  refine ⟨?_, t.os, t.tape, t.output, t.size, fun k hk => (t.keep k hk ?_ ?_).1⟩
  · have := s2.frame 0
    have h2 : Rel σ' w' (B true) x := this
    cases h2
    rfl
  · rintro ⟨b, hb, -⟩
    exact Nat.not_lt_zero _ hb
  · rintro ⟨p, ho⟩
    exact no _ _ _ ho
theorem cells_lt {w : World} {rb off : Nat} {y : Value} (h : w.cell? ⟨rb, off, none⟩ = some y) : off < (sg0 w).tip rb := by
 show off < (cellsAt w rb).size
 unfold World.cell? at h
 unfold cellsAt
 split at h
 ·rename_i c e fz hc
  rw [hc]
  simp only [Option.isSome_none, Bool.false_eq_true, if_false] at h
  exact (Array.getElem?_eq_some_iff.1 h).1
 ·cases h
open Go.ChangeShapes Go.WideShapes Go.ChangeAt Go.RowKit
theorem in_int {H : Type} {enc : TypeId × Value → H} {P : Program} {W : World} {base : Nat} {t : TypeId} {v : Value} {d : DataW H} {p : List MemPlace} (ht : P.underlying t = some (.int .i64))
    (hv : Value.okWide P W .any base t v) (hA : DataW.Trod enc P W 0 (fun _ => true) true t v d p) : ∃ n : Int, Rel (sg0 W) W (I n) v ∧ (Lit.int .i64 n).wf = true := by
  obtain ⟨n, rfl, rfl, rfl, wf⟩ := open_int ht hv hA
  exact ⟨n, .imm _, wf⟩
def CR (W : World) (us : List V) (cs : List Value) : Prop := us.length = cs.length ∧ ∀ (i : Nat) (u : V) (c : Value), us[i]? = some u → cs[i]? = some c → Rel (sg0 W) W u c ∧ c.oneCell' = true
def Opens {H α : Type} (enc : TypeId × Value → H) (W : World) (t : TypeId) (f : α → V) : Prop := ∀ n cs y, DataW.trod enc Try.prog W 0 (fun _ => true) true n t cs = some y → ∃ x : α, CR W (f x).cl cs
theorem cr1 {W : World} {u : V} {c : Value} (h : Rel (sg0 W) W u c) (o : c.oneCell' = true) : CR W [u] [c] := by
 refine ⟨rfl, fun i u' c' hu hc => ?_⟩
 match i with
 | 0 => cases hu; cases hc; exact ⟨h, o⟩
 | i + 1 => simp at hu
theorem cr1' {W : World} {u : V} {c : Value} (h : CR W [u] [c]) : Rel (sg0 W) W u c ∧ c.oneCell' = true := h.2 0 u c rfl rfl
theorem cr_nil {W : World} : CR W [] [] := ⟨rfl, fun i u c h => by simp at h⟩
theorem cr_cons {W : World} {u : V} {us : List V} {c : Value} {cs : List Value} (h : CR W [u] [c]) (k : CR W us cs) : CR W (u :: us) (c :: cs) := by
 refine ⟨by simp [k.1], fun i u' c' hu hc => ?_⟩
 match i with
 | 0 => simp at hu hc; subst hu hc; exact cr1' h
 | i + 1 => simp at hu hc; exact k.2 i u' c' hu hc
theorem opens_int {H : Type} {enc : TypeId × Value → H} {W : World} {t : TypeId} (ht : Try.prog.underlying t = some (.int .i64)) : Opens enc W t I := fun n cs y h => by
 obtain ⟨m, rfl, -, -⟩ := DataW.trod_int ht h
 exact ⟨m, cr1 (.imm _) rfl⟩
theorem cell_spot {w : World} {a : Addr} {y : Value} (h : w.cell? a = some y) : a.spot = none := by
 unfold World.cell? at h
 split at h
 ·cases hs : a.spot with
  | none => rfl
  | some k => rw [hs] at h; simp at h
 ·cases h
theorem add_none (b off k : Nat) : (⟨b, off, none⟩ : Addr).add k = ⟨b, off + k, none⟩ := by unfold Addr.add; split <;> simp_all
theorem flat_atB {α : Type} {f : α → V} {s : Nat} (hs : 0 < s) (hf : ∀ x, (f x).cl.length = s) : ∀ (l : List α) (j : Nat) (c : V), ((l.map f).flatMap V.cl)[j]? = some c → ∃ x, l[j / s]? = some x ∧ (f x).cl[j % s]? = some c
 | [], j, c, h => by simp at h
 | x :: l, j, c, h => by
  rw [List.map_cons, List.flatMap_cons] at h
  by_cases hj : j < s
  ·rw [List.getElem?_append_left (by rw [hf]; exact hj)] at h
   exact ⟨x, by rw [Nat.div_eq_of_lt hj]; rfl, by rw [Nat.mod_eq_of_lt hj]; exact h⟩
  ·rw [List.getElem?_append_right (by rw [hf]; omega), hf] at h
   obtain ⟨y, h1, h2⟩ := flat_atB hs hf l (j - s) c h
   have hj : s ≤ j := by omega
   refine ⟨y, ?_, by rw [Nat.mod_eq_sub_mod hj]; exact h2⟩
   rw [Nat.div_eq_sub_div hs hj]; exact h1
theorem fields {H : Type} {enc : TypeId × Value → H} {W : World} {t : TypeId} {fs : Array Field} {n : Nat} {cs : List Value} {y : DataW H × List MemPlace} (ht : Try.prog.underlying t = some (.struct fs)) (h : DataW.trod enc Try.prog W 0 (fun _ => true) true n t cs = some y) :
    cs.length = Try.prog.cellsOf t ∧ ∀ (i : Nat) (f : Field), fs[i]? = some f → ∃ m z, DataW.trod enc Try.prog W 0 (fun _ => true) true m f.type ((cs.drop f.offset).take (Try.prog.cellsOf f.type)) = some z := by
  obtain ⟨xs, m, -, -, hl, hlen, hf⟩ := DataW.trod_struct ht h
  refine ⟨hl, fun i f hi => ?_⟩
  have h1 := hf i f hi
  have : i < xs.length := by rw [hlen]; exact (Array.getElem?_eq_some_iff.1 hi).1
  exact ⟨m, _, h1.trans (List.getElem?_eq_getElem this)⟩
theorem k3 : Try.prog.cellsOf 3 = 1 := by kernel_rfl
theorem one {H α : Type} {enc : TypeId × Value → H} {W : World} {t : TypeId} {f : α → V} (ho : Opens enc W t f) {c : Value} (hc : ∀ x, (f x).cl = [f x]) (h : ∃ m z, DataW.trod enc Try.prog W 0 (fun _ => true) true m t [c] = some z) : ∃ x, CR W [f x] [c] := by
 obtain ⟨m, z, h⟩ := h
 obtain ⟨x, hx⟩ := ho _ _ _ h
 rw [hc] at hx
 exact ⟨x, hx⟩
theorem fld1 {H : Type} {enc : TypeId × Value → H} {W : World} {t o : Nat} {cs : List Value} {c : Value} (h : ∃ m z, DataW.trod enc Try.prog W 0 (fun _ => true) true m t ((cs.drop o).take (Try.prog.cellsOf t)) = some z) (k : Try.prog.cellsOf t = 1) (hc : cs[o]? = some c) : ∃ m z, DataW.trod enc Try.prog W 0 (fun _ => true) true m t [c] = some z := by
 obtain ⟨hl, rfl⟩ := List.getElem?_eq_some_iff.1 hc
 rw [k, List.drop_eq_getElem_cons hl] at h
 exact h
theorem opens_sliceB {H α : Type} {enc : TypeId × Value → H} {W : World} {t e : TypeId} {f : α → V} {s : Nat} (ht : Try.prog.underlying t = some (.slice e)) (hs : 0 < s) (hc : Try.prog.cellsOf e = s) (hf : ∀ x, (f x).cl.length = s ∧ (f x).Nd) (he : Opens enc W e f) :
    Opens enc W t (fun l : {l : List α // l.length ≤ maxLen} => .arr (l.1.map f) .no) := fun n cs y h => by
  rcases DataW.trod_slice ht h with ⟨rfl, -⟩ | ⟨a, len, cap, elems, rest, m, -, rfl, -, hb, hl, hm, hlen, hel, hre, -⟩
  · exact ⟨⟨[], Nat.zero_le _⟩, cr1 (.arr0 _ _ _ (fun h => by cases h) ⟨fun ad h => (by cases h), fun _ => rfl⟩) rfl⟩
  · rw [hc] at hel hre
    have go : ∀ (k : Nat) (z : DataW H × List MemPlace), (W.cells? 0 (a.add (k * s)) s).bind (DataW.trod enc Try.prog W 0 (fun _ => true) true m e) = some z → ∃ (x : α) (C : List Value), (∀ j, j < s → W.cell? ((a.add (k * s)).add j) = C[j]?) ∧ C.length = s ∧ CR W (f x).cl C := fun k z hz => by
      obtain ⟨C, h1, h2⟩ := Option.bind_eq_some_iff.1 hz
      obtain ⟨-, h3, h4⟩ := World.cells?_some h1
      obtain ⟨x, hx⟩ := he _ _ _ h2
      exact ⟨x, C, h4, h3, hx⟩
    have spot : cap = 0 ∨ a.spot = none := by
      by_cases h0 : cap = 0
      · exact .inl h0
      · refine .inr ?_
        have pick : ∃ z, (W.cells? 0 (a.add (0 * s)) s).bind (DataW.trod enc Try.prog W 0 (fun _ => true) true m e) = some z := by
          by_cases hl0 : 0 < len
          · exact ⟨_, (hel 0 hl0).trans (List.getElem?_eq_getElem (by omega))⟩
          · obtain rfl : len = 0 := by omega
            have := hre rfl
            exact ⟨_, (this.2 0 (by omega)).trans (List.getElem?_eq_getElem (by omega))⟩
        obtain ⟨z, hz⟩ := pick
        obtain ⟨x, C, h1, h2, -⟩ := go 0 z hz
        have h3 := h1 0 hs
        rw [List.getElem?_eq_getElem (by omega)] at h3
        rw [show (a.add (0 * s)).add 0 = a by simp [Addr.add]] at h3
        exact cell_spot h3
    have key : ∀ k, k ≤ len → ∃ l : List α, l.length = k ∧ ∃ C : Nat → List Value, ∀ i, i < k → (C i).length = s ∧ (∀ j, j < s → W.cell? ((a.add (i * s)).add j) = (C i)[j]?) ∧ ∀ x, l[i]? = some x → CR W (f x).cl (C i) := fun k => by
      induction k with
      | zero => exact fun _ => ⟨[], rfl, fun _ => [], fun i hi => absurd hi (Nat.not_lt_zero i)⟩
      | succ k ih =>
        intro hk
        obtain ⟨l, hll, C, hC⟩ := ih (by omega)
        obtain ⟨x, D, d1, d2, d3⟩ := go k _ ((hel k (by omega)).trans (List.getElem?_eq_getElem (by omega)))
        refine ⟨l ++ [x], by simp [hll], fun i => if i = k then D else C i, fun i hi => ?_⟩
        by_cases e : i = k
        · subst e
          simp only [if_true]
          refine ⟨d2, d1, fun x' hx => ?_⟩
          rw [List.getElem?_append_right (by omega), hll, Nat.sub_self] at hx
          cases hx
          exact d3
        · simp only [if_neg e]
          obtain ⟨c1, c2, c3⟩ := hC i (by omega)
          refine ⟨c1, c2, fun x' hx => c3 x' ?_⟩
          rw [List.getElem?_append_left (by omega)] at hx
          exact hx
    obtain ⟨l, hll, C, hC⟩ := key len (Nat.le_refl _)
    refine ⟨⟨l, by rw [hll]; exact Nat.le_trans hl hm⟩, cr1 ?_ rfl⟩
    show Rel _ _ (.arr (l.map f) .no) _
    by_cases h0 : len = 0
    · subst h0
      obtain rfl : l = [] := List.length_eq_zero_iff.1 hll
      refine .arr0 _ _ _ (fun h => by cases h) ⟨fun ad h => ?_, fun h => by cases h⟩
      cases h
      exact spot.symm
    · have hsp := spot.resolve_left (by omega)
      obtain ⟨b, off, sp⟩ := a
      cases hsp
      refine .arr _ .no b off len cap s (fun j => (C (j / s)).getD (j % s) undef) ?_ (by rw [List.length_map, hll]) hl (fun h => by cases h) hs ?_ ?_ ?_
      · intro h
        have := congrArg List.length h
        rw [List.length_map, hll] at this
        exact h0 this
      · intro z hz
        obtain ⟨x, -, rfl⟩ := List.mem_map.1 hz
        exact hf x
      all_goals
        intro j c hj
        obtain ⟨x, hx, hcx⟩ := flat_atB hs (fun x => (hf x).1) l j c hj
        have hjl : j / s < len := by rw [← hll]; exact (List.getElem?_eq_some_iff.1 hx).1
        obtain ⟨c1, c2, c3⟩ := hC (j / s) hjl
        have hmod := Nat.mod_lt j hs
        have hg : (C (j / s))[j % s]? = some ((C (j / s)).getD (j % s) undef) := by rw [List.getD_eq_getElem?_getD, List.getElem?_eq_getElem (by omega)]; rfl
        obtain ⟨r1, r2⟩ := (c3 x hx).2 _ _ _ hcx hg
      · have c4 := c2 (j % s) hmod
        rw [add_none, add_none, Nat.add_assoc, Nat.mul_comm, Nat.div_add_mod, hg] at c4
        exact ⟨cells_lt c4, c4, r2⟩
      · exact r1
theorem opens3 {H : Type} {enc : TypeId × Value → H} {W : World} : Opens enc W 3 I := opens_int Try.underlying3
theorem mx : maxLen = 9223372036854775807 := rfl
end Go.Proofs.Ytlnjhnemmemloaa
namespace Go.Proofs.Ytlnjhnemmemloaa
open Go Go.Ab Go.Proofs
attribute [local congr] g_bin g_nilS g_nilP g_un g_ext g_bx g_fa g_ld g_st g_ix g_ixA g_slc g_mk g_bs g_bd g_nc g_cv g_len g_lenT g_app g_appB g_cpy g_mm g_call g_callG g_calm g_calmG g_range g_res g_pick g_cond g_loop g_Jv g_eqS g_eqP g_fd g_ixT g_ta g_lkp g_upd g_mkM g_appS g_inv g_callE g_callEG g_invE g_zr g_wr
open Go.ChangeShapes Go.WideShapes Go.ChangeAt Go.RowKit
theorem in_one {H α : Type} {enc : TypeId × Value → H} {W : World} {base : Nat} {t e : TypeId} {v : Value} {d : DataW H} {p : List MemPlace} {f : α → V} (ht : Try.prog.underlying t = some (.slice e)) (ho : Opens enc W t f) (hcl : ∀ x, (f x).cl = [f x]) (hv : Value.okWide Try.prog W .any base t v)
    (hA : DataW.Trod enc Try.prog W 0 (fun _ => true) true t v d p) : ∃ x : α, Rel (sg0 W) W (f x) v := by
  obtain ⟨a, len, cap, rfl⟩ := okWide_slice ht hv
  obtain ⟨fuel, hf⟩ := hA
  obtain ⟨l, hl⟩ := ho _ _ _ hf
  rw [hcl] at hl
  exact ⟨l, (cr1' hl).1⟩
end Go.Proofs.Ytlnjhnemmemloaa
namespace Go.Proofs.Ytlnjhnemmemloaa
open Go Go.Ab Go.Proofs
attribute [local congr] g_bin g_nilS g_nilP g_un g_ext g_bx g_fa g_ld g_st g_ix g_ixA g_slc g_mk g_bs g_bd g_nc g_cv g_len g_lenT g_app g_appB g_cpy g_mm g_call g_callG g_calm g_calmG g_range g_res g_pick g_cond g_loop g_Jv g_eqS g_eqP g_fd g_ixT g_ta g_lkp g_upd g_mkM g_appS g_inv g_callE g_callEG g_invE g_zr g_wr
structure Rg (a b : Nat) (d d' : List Int) : Prop where
 l : d'.length = d.length
 o : ∀ i, i < a ∨ b ≤ i → d'.getD i 0 = d.getD i 0
 m : ∀ i, a ≤ i → i < b → ∃ j, a ≤ j ∧ j < b ∧ d'.getD i 0 = d.getD j 0
 p : ∀ x, d'.count x = d.count x
theorem Rg.refl (a b : Nat) (d : List Int) : Rg a b d d := ⟨rfl, fun _ _ => rfl, fun i h1 h2 => ⟨i, h1, h2, rfl⟩, fun _ => rfl⟩
theorem Rg.trans {a b : Nat} {d e f : List Int} (h : Rg a b d e) (k : Rg a b e f) : Rg a b d f :=
 ⟨k.l.trans h.l, fun i hi => (k.o i hi).trans (h.o i hi), fun i h1 h2 => by
  obtain ⟨j, j1, j2, e1⟩ := k.m i h1 h2
  obtain ⟨q, q1, q2, e2⟩ := h.m j j1 j2
  exact ⟨q, q1, q2, e1.trans e2⟩, fun x => (k.p x).trans (h.p x)⟩
theorem Rg.mono {a b a' b' : Nat} {d d' : List Int} (h : Rg a b d d') (ha : a' ≤ a) (hb : b ≤ b') : Rg a' b' d d' :=
 ⟨h.l, fun i hi => h.o i (by omega), fun i h1 h2 => by
  by_cases hi : a ≤ i ∧ i < b
  ·obtain ⟨j, j1, j2, e⟩ := h.m i hi.1 hi.2
   exact ⟨j, by omega, by omega, e⟩
  ·exact ⟨i, h1, h2, h.o i (by omega)⟩, h.p⟩
def sw (d : List Int) (i j : Nat) : List Int := (d.set i (d.getD j 0)).set j (d.getD i 0)
theorem sw_len (d : List Int) (i j : Nat) : (sw d i j).length = d.length := by unfold sw; rw [List.length_set, List.length_set]
theorem gD_set (d : List Int) (i : Nat) (x : Int) (k : Nat) (hi : i < d.length) : (d.set i x).getD k 0 = if k = i then x else d.getD k 0 := by
 rw [List.getD_eq_getElem?_getD, List.getElem?_set, List.getD_eq_getElem?_getD]
 by_cases h : i = k
 ·rw [if_pos h, if_pos (by omega), if_pos h.symm]; rfl
 ·rw [if_neg h, if_neg (fun e => h e.symm)]
theorem sw_get (d : List Int) {i j : Nat} (hi : i < d.length) (hj : j < d.length) (k : Nat) : (sw d i j).getD k 0 = if k = j then d.getD i 0 else if k = i then d.getD j 0 else d.getD k 0 := by
 unfold sw
 rw [gD_set _ _ _ _ (by rw [List.length_set]; exact hj), gD_set _ _ _ _ hi]
theorem sw_count (d : List Int) {i j : Nat} (hi : i < d.length) (hj : j < d.length) (x : Int) : (sw d i j).count x = d.count x := by
 have ei : d.getD i 0 = d[i] := by rw [List.getD_eq_getElem?_getD, List.getElem?_eq_getElem hi]; rfl
 have ej : d.getD j 0 = d[j] := by rw [List.getD_eq_getElem?_getD, List.getElem?_eq_getElem hj]; rfl
 unfold sw
 rw [List.count_set (by rw [List.length_set]; exact hj), List.count_set hi]
 have e2 : (d.set i (d.getD j 0))[j]'(by rw [List.length_set]; exact hj) = d.getD j 0 := by
  rw [List.getElem_set]
  split
  ·rfl
  ·exact ej.symm
 rw [e2, ← ei]
 have hp : (d.getD i 0 == x) = true → 1 ≤ d.count x := fun h => by
  have : x ∈ d := by rw [← eq_of_beq h, ei]; exact List.getElem_mem hi
  exact List.count_pos_iff.2 this
 generalize d.getD i 0 = u at *
 generalize d.getD j 0 = v at *
 cases hu : u == x <;> cases hv : v == x
 ·simp
 ·simp
 ·have := hp hu
  simp; omega
 ·have := hp hu
  simp; omega
structure Swp (a b n : Nat) (d d' : List Int) : Prop where
 l : d'.length = d.length
 g : ∀ k, d'.getD k 0 = if a ≤ k ∧ k < a + n then d.getD (b + (k - a)) 0 else if b ≤ k ∧ k < b + n then d.getD (a + (k - b)) 0 else d.getD k 0
 p : ∀ x, d'.count x = d.count x
theorem Swp.zero (a b : Nat) (d : List Int) : Swp a b 0 d d := ⟨rfl, fun k => by rw [if_neg (by omega), if_neg (by omega)], fun _ => rfl⟩
theorem Swp.step {a b n : Nat} {d d' : List Int} (h : Swp a b n d d') (hab : a + (n + 1) ≤ b) (hl : b + (n + 1) ≤ d.length) : Swp a b (n + 1) d (sw d' (a + n) (b + n)) := by
 have hl' := h.l
 refine ⟨(sw_len _ _ _).trans h.l, fun k => ?_, fun x => (sw_count d' (by omega) (by omega) x).trans (h.p x)⟩
 rw [sw_get d' (by omega) (by omega), h.g, h.g, h.g]
 by_cases e1 : k = b + n
 ·subst e1
  rw [if_pos rfl, if_neg (by omega), if_neg (by omega), if_neg (by omega), if_pos (by omega)]
  congr 1; omega
 ·rw [if_neg e1]
  by_cases e2 : k = a + n
  ·subst e2
   rw [if_pos rfl, if_neg (by omega), if_neg (by omega), if_pos (by omega)]
   congr 1; omega
  ·rw [if_neg e2]
   by_cases e3 : a ≤ k ∧ k < a + n
   ·rw [if_pos e3, if_pos (by omega)]
   ·rw [if_neg e3]
    by_cases e4 : b ≤ k ∧ k < b + n
    ·rw [if_pos e4, if_neg (by omega), if_pos (by omega)]
    ·rw [if_neg e4, if_neg (by omega), if_neg (by omega)]
structure Rot (a m b : Nat) (d d' : List Int) : Prop where
 l : d'.length = d.length
 g : ∀ k, d'.getD k 0 = if a ≤ k ∧ k < a + (b - m) then d.getD (m + (k - a)) 0 else if a + (b - m) ≤ k ∧ k < b then d.getD (k - (b - m)) 0 else d.getD k 0
 p : ∀ x, d'.count x = d.count x
theorem Rot.half {m i : Nat} {d d' : List Int} (hi : i ≤ m) (h : Swp (m - i) m i d d') : Rot (m - i) m (m + i) d d' := by
 refine ⟨h.l, fun k => ?_, h.p⟩
 rw [h.g]
 by_cases e1 : m - i ≤ k ∧ k < m - i + i
 ·rw [if_pos e1, if_pos (by omega)]
 ·rw [if_neg e1]
  by_cases e2 : m ≤ k ∧ k < m + i
  ·rw [if_pos e2, if_neg (by omega), if_pos (by omega)]
   congr 1; omega
  ·rw [if_neg e2, if_neg (by omega), if_neg (by omega)]
theorem Rot.left {m i j : Nat} {d e f : List Int} (hi : i ≤ m) (hji : j < i) (h : Swp (m - i) m j d e) (k : Rot (m - (i - j)) m (m + j) e f) : Rot (m - i) m (m + j) d f := by
 refine ⟨k.l.trans h.l, fun q => ?_, fun x => (k.p x).trans (h.p x)⟩
 rw [k.g]
 by_cases e1 : m - (i - j) ≤ q ∧ q < m - (i - j) + (m + j - m)
 ·rw [if_pos e1, h.g, if_neg (by omega), if_pos (by omega)]
  by_cases e2 : m - i ≤ q ∧ q < m - i + (m + j - m)
  ·omega
  ·rw [if_neg e2, if_pos (by omega)]
   congr 1; omega
 ·rw [if_neg e1]
  by_cases e2 : m - (i - j) + (m + j - m) ≤ q ∧ q < m + j
  ·rw [if_pos e2, h.g, if_neg (by omega), if_neg (by omega), if_neg (by omega), if_pos (by omega)]
  ·rw [if_neg e2, h.g]
   by_cases e3 : m - i ≤ q ∧ q < m - i + j
   ·rw [if_pos e3, if_pos (by omega)]
   ·rw [if_neg e3, if_neg (by omega), if_neg (by omega), if_neg (by omega)]
theorem Rot.right {m i j : Nat} {d e f : List Int} (hi : i ≤ m) (hij : i < j) (h : Swp (m - i) (m + j - i) i d e) (k : Rot (m - i) m (m + (j - i)) e f) : Rot (m - i) m (m + j) d f := by
 refine ⟨k.l.trans h.l, fun q => ?_, fun x => (k.p x).trans (h.p x)⟩
 rw [k.g]
 by_cases e1 : m - i ≤ q ∧ q < m - i + (m + (j - i) - m)
 ·rw [if_pos e1, if_pos (by omega), h.g, if_neg (by omega), if_neg (by omega)]
 ·rw [if_neg e1]
  by_cases e2 : m - i + (m + (j - i) - m) ≤ q ∧ q < m + (j - i)
  ·rw [if_pos e2, h.g, if_pos (by omega)]
   by_cases e3 : m - i ≤ q ∧ q < m - i + (m + j - m)
   ·rw [if_pos e3]
    congr 1; omega
   ·omega
  ·rw [if_neg e2, h.g, if_neg (by omega)]
   by_cases e3 : m + j - i ≤ q ∧ q < m + j - i + i
   ·rw [if_pos e3, if_neg (by omega), if_pos (by omega)]
    congr 1; omega
   ·rw [if_neg e3, if_neg (by omega), if_neg (by omega)]
theorem Rot.rg {a m b : Nat} {d d' : List Int} (h : Rot a m b d d') (ha : a ≤ m) (hb : m ≤ b) : Rg a b d d' := by
 refine ⟨h.l, fun i hi => by rw [h.g, if_neg (by omega), if_neg (by omega)], fun i h1 h2 => ?_, h.p⟩
 rw [h.g]
 by_cases e1 : a ≤ i ∧ i < a + (b - m)
 ·rw [if_pos e1]
  exact ⟨m + (i - a), by omega, by omega, rfl⟩
 ·rw [if_neg e1, if_pos (by omega)]
  exact ⟨i - (b - m), by omega, by omega, rfl⟩
def ltK (key : Int → Int) (x y : Int) : Prop := key x < key y ∨ (key x = key y ∧ x < y)
theorem ltK_as {key : Int → Int} {x y : Int} (h : ltK key x y) : ¬ ltK key y x := by unfold ltK at *; omega
def Srd (key : Int → Int) (a b : Nat) (d : List Int) : Prop := ∀ i j, a ≤ i → i < j → j < b → ltK key (d.getD i 0) (d.getD j 0)
def Sep (a m b : Nat) (d : List Int) : Prop := ∀ i j, a ≤ i → i < m → m ≤ j → j < b → d.getD i 0 < d.getD j 0
theorem Sep.dec {key : Int → Int} {a m b : Nat} {d : List Int} (h : Sep a m b d) {i j : Nat} (h1 : a ≤ i) (h2 : i < m) (h3 : m ≤ j) (h4 : j < b) :
    (key (d.getD j 0) < key (d.getD i 0) → ltK key (d.getD j 0) (d.getD i 0)) ∧ (¬ key (d.getD j 0) < key (d.getD i 0) → ltK key (d.getD i 0) (d.getD j 0)) := by
  have := h i j h1 h2 h3 h4
  unfold ltK
  omega
structure Mg (key : Int → Int) (a b : Nat) (d d' : List Int) : Prop where
 r : Rg a b d d'
 s : Srd key a b d'
theorem Srd.le {key : Int → Int} {a b : Nat} {d : List Int} (h : Srd key a b d) {i j : Nat} (h1 : a ≤ i) (h2 : i ≤ j) (h3 : j < b) : key (d.getD i 0) ≤ key (d.getD j 0) := by
 by_cases e : i = j
 ·rw [e]; exact Int.le_refl _
 ·have := h i j h1 (by omega) h3
  unfold ltK at this; omega
theorem Srd.sub {key : Int → Int} {a b a' b' : Nat} {d : List Int} (h : Srd key a b d) (ha : a ≤ a') (hb : b' ≤ b) : Srd key a' b' d := fun i j h1 h2 h3 => h i j (by omega) h2 (by omega)
theorem Srd.one (key : Int → Int) {a b : Nat} (d : List Int) (h : b ≤ a + 1) : Srd key a b d := fun i j h1 h2 h3 => by omega
theorem Srd.same {key : Int → Int} {a b : Nat} {d d' : List Int} (h : Srd key a b d) (e : ∀ i, a ≤ i → i < b → d'.getD i 0 = d.getD i 0) : Srd key a b d' := fun i j h1 h2 h3 => by
 rw [e i h1 (by omega), e j (by omega) h3]; exact h i j h1 h2 h3
theorem Rot.none {a m b : Nat} (d : List Int) (h : a = m ∨ b = m) (ha : a ≤ m) (hb : m ≤ b) : Rot a m b d d := by
 refine ⟨rfl, fun k => ?_, fun _ => rfl⟩
 by_cases e1 : a ≤ k ∧ k < a + (b - m)
 ·rw [if_pos e1]
  congr 1; omega
 ·rw [if_neg e1]
  by_cases e2 : a + (b - m) ≤ k ∧ k < b
  ·rw [if_pos e2]
   congr 1; omega
  ·rw [if_neg e2]
theorem Rot.up {a k : Nat} {d d' : List Int} (h : Rot a (a + 1) (k + 1) d d') (hk : a ≤ k) (hl : k + 1 < d.length) : Rot a (a + 1) (k + 2) d (sw d' k (k + 1)) := by
 have hl' := h.l
 refine ⟨(sw_len _ _ _).trans h.l, fun q => ?_, fun x => (sw_count d' (by omega) (by omega) x).trans (h.p x)⟩
 rw [sw_get d' (by omega) (by omega), h.g, h.g, h.g]
 by_cases e1 : q = k + 1
 ·subst e1
  rw [if_pos rfl, if_neg (by omega), if_pos (by omega), if_neg (by omega), if_pos (by omega)]
  congr 1; omega
 ·rw [if_neg e1]
  by_cases e2 : q = k
  ·subst e2
   rw [if_pos rfl, if_neg (by omega), if_neg (by omega), if_pos (by omega)]
   congr 1; omega
  ·rw [if_neg e2]
   by_cases e3 : a ≤ q ∧ q < a + (k + 1 - (a + 1))
   ·rw [if_pos e3, if_pos (by omega)]
   ·rw [if_neg e3, if_neg (by omega), if_neg (by omega), if_neg (by omega)]
theorem Rot.down {k m : Nat} {d d' : List Int} (h : Rot (k + 1) m (m + 1) d d') (hk : k < m) (hl : m < d.length) : Rot k m (m + 1) d (sw d' (k + 1) k) := by
 have hl' := h.l
 refine ⟨(sw_len _ _ _).trans h.l, fun q => ?_, fun x => (sw_count d' (by omega) (by omega) x).trans (h.p x)⟩
 rw [sw_get d' (by omega) (by omega), h.g, h.g, h.g]
 by_cases e1 : q = k
 ·subst e1
  rw [if_pos rfl, if_pos (by omega), if_pos (by omega)]
  congr 1; omega
 ·rw [if_neg e1]
  by_cases e2 : q = k + 1
  ·subst e2
   rw [if_pos rfl, if_neg (by omega), if_neg (by omega), if_neg (by omega), if_pos (by omega)]
   congr 1; omega
  ·rw [if_neg e2, if_neg (by omega)]
   by_cases e3 : k + 1 + (m + 1 - m) ≤ q ∧ q < m + 1
   ·rw [if_pos e3, if_neg (by omega), if_pos (by omega)]
   ·rw [if_neg e3, if_neg (by omega), if_neg (by omega)]
theorem one_left {key : Int → Int} {a i b : Nat} {d d' : List Int} (hs : Srd key (a + 1) b d) (h1 : a + 1 ≤ i) (h2 : i ≤ b)
    (lo : ∀ h, a + 1 ≤ h → h < i → ltK key (d.getD h 0) (d.getD a 0)) (hi : ∀ h, i ≤ h → h < b → ltK key (d.getD a 0) (d.getD h 0)) (r : Rot a (a + 1) i d d') : Srd key a b d' := by
  have hA : ∀ q, a ≤ q → q < i - 1 → d'.getD q 0 = d.getD (q + 1) 0 := fun q h3 h4 => by
    rw [r.g, if_pos (by omega)]; congr 1; omega
  have hB : d'.getD (i - 1) 0 = d.getD a 0 := by
    rw [r.g, if_neg (by omega), if_pos (by omega)]; congr 1; omega
  have hC : ∀ q, i ≤ q → d'.getD q 0 = d.getD q 0 := fun q h3 => by
    rw [r.g, if_neg (by omega), if_neg (by omega)]
  intro x y x1 x2 x3
  by_cases c1 : y < i - 1
  · rw [hA x (by omega) (by omega), hA y (by omega) c1]
    exact hs _ _ (by omega) (by omega) (by omega)
  · by_cases c2 : y = i - 1
    · rw [c2, hB, hA x (by omega) (by omega)]
      exact lo _ (by omega) (by omega)
    · rw [hC y (by omega)]
      by_cases c3 : x < i - 1
      · rw [hA x (by omega) c3]
        exact hs _ _ (by omega) (by omega) (by omega)
      · by_cases c4 : x = i - 1
        · rw [c4, hB]
          exact hi _ (by omega) (by omega)
        · rw [hC x (by omega)]
          exact hs _ _ (by omega) (by omega) (by omega)
theorem one_right {key : Int → Int} {a i m : Nat} {d d' : List Int} (hs : Srd key a m d) (h1 : a ≤ i) (h2 : i ≤ m)
    (lo : ∀ h, a ≤ h → h < i → ltK key (d.getD h 0) (d.getD m 0)) (hi : ∀ h, i ≤ h → h < m → ltK key (d.getD m 0) (d.getD h 0)) (r : Rot i m (m + 1) d d') : Srd key a (m + 1) d' := by
  have hA : ∀ q, q < i → d'.getD q 0 = d.getD q 0 := fun q h3 => by
    rw [r.g, if_neg (by omega), if_neg (by omega)]
  have hB : d'.getD i 0 = d.getD m 0 := by
    rw [r.g, if_pos (by omega)]; congr 1; omega
  have hC : ∀ q, i < q → q < m + 1 → d'.getD q 0 = d.getD (q - 1) 0 := fun q h3 h4 => by
    rw [r.g, if_neg (by omega), if_pos (by omega)]; congr 1; omega
  intro x y x1 x2 x3
  by_cases c1 : y < i
  · rw [hA x (by omega), hA y c1]
    exact hs _ _ (by omega) (by omega) (by omega)
  · by_cases c2 : y = i
    · rw [c2, hB, hA x (by omega)]
      exact lo _ (by omega) (by omega)
    · rw [hC y (by omega) x3]
      by_cases c3 : x < i
      · rw [hA x c3]
        exact hs _ _ (by omega) (by omega) (by omega)
      · by_cases c4 : x = i
        · rw [c4, hB]
          exact hi _ (by omega) (by omega)
        · rw [hC x (by omega) (by omega)]
          exact hs _ _ (by omega) (by omega) (by omega)
structure Sym (key : Int → Int) (a s mid e b : Nat) (d d1 : List Int) : Prop where
 r : Rg a b d d1
 s1 : Srd key a s d1
 s2 : Srd key s mid d1
 p1 : Sep a s mid d1
 s3 : Srd key mid e d1
 s4 : Srd key e b d1
 p2 : Sep mid e b d1
 x : ∀ i j, a ≤ i → i < mid → mid ≤ j → j < b → ltK key (d1.getD i 0) (d1.getD j 0)
theorem sym_of {key : Int → Int} {a s m e mid b : Nat} {d d1 : List Int} (hL : Srd key a m d) (hR : Srd key m b d) (hp : Sep a m b d) (h1 : a ≤ s) (h2 : s ≤ m) (h3 : m ≤ e) (h4 : e ≤ b) (hm : mid = s + (e - m))
    (A : ∀ x y, a ≤ x → x < s → e ≤ y → y < b → ltK key (d.getD x 0) (d.getD y 0)) (B : ∀ y x, m ≤ y → y < e → s ≤ x → x < m → ltK key (d.getD y 0) (d.getD x 0)) (r : Rot s m e d d1) : Sym key a s mid e b d d1 := by
  have g1 : ∀ q, q < s → d1.getD q 0 = d.getD q 0 := fun q h => by rw [r.g, if_neg (by omega), if_neg (by omega)]
  have g2 : ∀ q, s ≤ q → q < mid → d1.getD q 0 = d.getD (m + (q - s)) 0 := fun q h k => by rw [r.g, if_pos (by omega)]
  have g3 : ∀ q, mid ≤ q → q < e → d1.getD q 0 = d.getD (q - (e - m)) 0 := fun q h k => by rw [r.g, if_neg (by omega), if_pos (by omega)]
  have g4 : ∀ q, e ≤ q → d1.getD q 0 = d.getD q 0 := fun q h => by rw [r.g, if_neg (by omega), if_neg (by omega)]
  refine ⟨(r.rg h2 h3).mono h1 h4, fun i j i1 i2 i3 => ?_, fun i j i1 i2 i3 => ?_, fun i j i1 i2 i3 i4 => ?_, fun i j i1 i2 i3 => ?_, fun i j i1 i2 i3 => ?_, fun i j i1 i2 i3 i4 => ?_, fun i j i1 i2 i3 i4 => ?_⟩
  · rw [g1 i (by omega), g1 j i3]; exact hL _ _ i1 i2 (by omega)
  · rw [g2 i i1 (by omega), g2 j (by omega) i3]; exact hR _ _ (by omega) (by omega) (by omega)
  · rw [g1 i i2, g2 j i3 i4]; exact hp _ _ i1 (by omega) (by omega) (by omega)
  · rw [g3 i i1 (by omega), g3 j (by omega) i3]; exact hL _ _ (by omega) (by omega) (by omega)
  · rw [g4 i i1, g4 j (by omega)]; exact hR _ _ (by omega) i2 i3
  · rw [g3 i i1 i2, g4 j i3]; exact hp _ _ (by omega) (by omega) (by omega) i4
  · by_cases c1 : i < s
    · rw [g1 i c1]
      by_cases c2 : j < e
      · rw [g3 j i3 c2]; exact hL _ _ i1 (by omega) (by omega)
      · rw [g4 j (by omega)]; exact A _ _ i1 c1 (by omega) i4
    · rw [g2 i (by omega) i2]
      by_cases c2 : j < e
      · rw [g3 j i3 c2]; exact B _ _ (by omega) (by omega) (by omega) (by omega)
      · rw [g4 j (by omega)]; exact hR _ _ (by omega) (by omega) i4
theorem Sym.done {key : Int → Int} {a s mid e b : Nat} {d d1 d2 d3 : List Int} (h : Sym key a s mid e b d d1) (ha : a ≤ mid) (hb : mid ≤ b) (m1 : Mg key a mid d1 d2) (m2 : Mg key mid b d2 d3) : Mg key a b d d3 := by
 refine ⟨(h.r.trans (m1.r.mono (Nat.le_refl _) hb)).trans (m2.r.mono ha (Nat.le_refl _)), fun i j i1 i2 i3 => ?_⟩
 by_cases c1 : j < mid
 ·rw [m2.r.o i (by omega), m2.r.o j (by omega)]; exact m1.s i j i1 i2 c1
 ·by_cases c2 : mid ≤ i
  ·exact m2.s i j c2 i2 i3
  ·rw [m2.r.o i (by omega)]
   obtain ⟨i', p1, p2, e1⟩ := m1.r.m i i1 (by omega)
   obtain ⟨j', q1, q2, e2⟩ := m2.r.m j (by omega) i3
   rw [e1, e2, m1.r.o j' (by omega)]
   exact h.x _ _ p1 p2 q1 q2
theorem Sym.no1 {key : Int → Int} {a s mid e b : Nat} {d d1 : List Int} (h : Sym key a s mid e b d d1) (hn : ¬ (a < s ∧ s < mid)) (h1 : a ≤ s) (h2 : s ≤ mid) : Mg key a mid d1 d1 := by
 refine ⟨Rg.refl _ _ _, ?_⟩
 by_cases c : a < s
 ·obtain rfl : s = mid := by omega
  exact h.s1
 ·obtain rfl : a = s := by omega
  exact h.s2
theorem Sym.no2 {key : Int → Int} {a s mid e b : Nat} {d d1 d2 : List Int} (h : Sym key a s mid e b d d1) (m1 : Mg key a mid d1 d2) (hn : ¬ (mid < e ∧ e < b)) (h1 : mid ≤ e) (h2 : e ≤ b) : Mg key mid b d2 d2 := by
 refine ⟨Rg.refl _ _ _, ?_⟩
 by_cases c : mid < e
 ·obtain rfl : e = b := by omega
  exact h.s3.same fun i i1 i2 => m1.r.o i (by omega)
 ·obtain rfl : mid = e := by omega
  exact h.s4.same fun i i1 i2 => m1.r.o i (by omega)
theorem Sym.in2 {key : Int → Int} {a s mid e b : Nat} {d d1 d2 : List Int} (h : Sym key a s mid e b d d1) (m1 : Mg key a mid d1 d2) (h1 : mid ≤ e) : Srd key mid e d2 ∧ Srd key e b d2 ∧ Sep mid e b d2 :=
 ⟨h.s3.same fun i i1 i2 => m1.r.o i (by omega), h.s4.same fun i i1 i2 => m1.r.o i (by omega), fun i j i1 i2 i3 i4 => by
  rw [m1.r.o i (by omega), m1.r.o j (by omega)]; exact h.p2 i j i1 i2 i3 i4⟩
structure Cut (key : Int → Int) (p lo hi s r : Nat) (d : List Int) : Prop where
 b : lo ≤ s ∧ s ≤ r ∧ r ≤ hi
 l : ∀ c, lo ≤ c → c < s → ¬ key (d.getD (p - c) 0) < key (d.getD c 0)
 h : ∀ c, r ≤ c → c < hi → key (d.getD (p - c) 0) < key (d.getD c 0)
theorem Cut.zero (key : Int → Int) (p : Nat) {lo hi : Nat} (d : List Int) (h : lo ≤ hi) : Cut key p lo hi lo hi d := ⟨⟨Nat.le_refl _, h, Nat.le_refl _⟩, fun c h1 h2 => by omega, fun c h1 h2 => by omega⟩
structure CutP (a m b mid lo hi : Nat) : Prop where
 l : a ≤ lo
 h : hi ≤ m
 p1 : ∀ c, lo ≤ c → c < hi → m ≤ mid + m - 1 - c ∧ mid + m - 1 - c < b ∧ c ≤ mid + m - 1
 e : (lo = a ∧ hi = m ∧ m ≤ mid ∧ mid + m ≤ a + b) ∨ (lo = mid + m - b ∧ hi = mid ∧ mid < m ∧ a + b ≤ mid + m)
theorem cutP1 {a m b mid : Nat} (h1 : a < m) (h2 : m < b) (hm : mid = (a + b) / 2) (h : ¬ mid < m) : CutP a m b mid a m := ⟨Nat.le_refl _, Nat.le_refl _, fun c c1 c2 => by omega, .inl ⟨rfl, rfl, by omega, by omega⟩⟩
theorem cutP2 {a m b mid : Nat} (h1 : a < m) (h2 : m < b) (hm : mid = (a + b) / 2) (h : mid < m) : CutP a m b mid (mid + m - b) mid := ⟨by omega, by omega, fun c c1 c2 => by omega, .inr ⟨rfl, rfl, h, by omega⟩⟩
theorem Cut.right {key : Int → Int} {a m b mid lo hi s r : Nat} {d : List Int} (hP : CutP a m b mid lo hi) (hL : Srd key a m d) (hR : Srd key m b d) (h : Cut key (mid + m - 1) lo hi s r d) {c : Nat} (c1 : s ≤ c) (c2 : c < r) (hc : ¬ key (d.getD (mid + m - 1 - c) 0) < key (d.getD c 0)) : Cut key (mid + m - 1) lo hi (c + 1) r d := by
 obtain ⟨b1, b2, b3⟩ := h.b
 refine ⟨⟨by omega, by omega, b3⟩, fun q q1 q2 => ?_, h.h⟩
 have hh := hP.h
 have hl := hP.l
 have p1 := hP.p1 c (by omega) (by omega)
 have p2 := hP.p1 q q1 (by omega)
 have k1 := hL.le (i := q) (j := c) (by omega) (by omega) (by omega)
 have k2 := hR.le (i := mid + m - 1 - c) (j := mid + m - 1 - q) (by omega) (by omega) (by omega)
 omega
theorem Cut.left {key : Int → Int} {a m b mid lo hi s r : Nat} {d : List Int} (hP : CutP a m b mid lo hi) (hL : Srd key a m d) (hR : Srd key m b d) (h : Cut key (mid + m - 1) lo hi s r d) {c : Nat} (c1 : s ≤ c) (c2 : c < r) (hc : key (d.getD (mid + m - 1 - c) 0) < key (d.getD c 0)) : Cut key (mid + m - 1) lo hi s c d := by
 obtain ⟨b1, b2, b3⟩ := h.b
 refine ⟨⟨b1, c1, by omega⟩, h.l, fun q q1 q2 => ?_⟩
 have hh := hP.h
 have hl := hP.l
 have p1 := hP.p1 c (by omega) (by omega)
 have p2 := hP.p1 q (by omega) q2
 have k1 := hL.le (i := c) (j := q) (by omega) (by omega) (by omega)
 have k2 := hR.le (i := mid + m - 1 - q) (j := mid + m - 1 - c) (by omega) (by omega) (by omega)
 omega
structure CutE (key : Int → Int) (a s m e mid b : Nat) (d : List Int) : Prop where
 o : a ≤ s ∧ s ≤ m ∧ m ≤ e ∧ e ≤ b ∧ mid = s + (e - m) ∧ s ≤ mid ∧ mid ≤ e
 A : ∀ x y, a ≤ x → x < s → e ≤ y → y < b → ltK key (d.getD x 0) (d.getD y 0)
 B : ∀ y x, m ≤ y → y < e → s ≤ x → x < m → ltK key (d.getD y 0) (d.getD x 0)
theorem Cut.end_ {key : Int → Int} {a m b mid lo hi s : Nat} {d : List Int} (hP : CutP a m b mid lo hi) (hL : Srd key a m d) (hR : Srd key m b d) (hp : Sep a m b d) (h : Cut key (mid + m - 1) lo hi s s d) : CutE key a s m (mid + m - s) mid b d := by
 obtain ⟨b1, -, b3⟩ := h.b
 have hh := hP.h
 have hl := hP.l
 have he := hP.e
 refine ⟨by omega, fun x y x1 x2 y1 y2 => ?_, fun y x y1 y2 x1 x2 => ?_⟩
 ·by_cases c : s = lo
  ·omega
  ·have p1 := hP.p1 (s - 1) (by omega) (by omega)
   have k := h.l (s - 1) (by omega) (by omega)
   have ee : mid + m - 1 - (s - 1) = mid + m - s := by omega
   rw [ee] at k
   have k3 := (hp.dec (key := key) (i := s - 1) (j := mid + m - s) (by omega) (by omega) (by omega) (by omega)).2 k
   have k1 := hL.le (i := x) (j := s - 1) x1 (by omega) (by omega)
   have k2 := hR.le (i := mid + m - s) (j := y) (by omega) y1 y2
   have k4 := hp x y x1 (by omega) (by omega) y2
   unfold ltK at k3 ⊢
   omega
 ·by_cases c : s = hi
  ·omega
  ·have p1 := hP.p1 s (by omega) (by omega)
   have k := h.h s (Nat.le_refl _) (by omega)
   have ee : mid + m - 1 - s = mid + m - s - 1 := by omega
   rw [ee] at k
   have k1 := hL.le (i := s) (j := x) (by omega) x1 x2
   have k2 := hR.le (i := y) (j := mid + m - s - 1) y1 (by omega) (by omega)
   exact .inl (by omega)
structure Bin (lo hi i j : Nat) (P : Nat → Prop) : Prop where
 b : lo ≤ i ∧ i ≤ j ∧ j ≤ hi
 l : ∀ c, lo ≤ c → c < i → P c
 h : ∀ c, j ≤ c → c < hi → ¬ P c
theorem Bin.zero {lo hi : Nat} (P : Nat → Prop) (h : lo ≤ hi) : Bin lo hi lo hi P := ⟨⟨Nat.le_refl _, h, Nat.le_refl _⟩, fun c h1 h2 => by omega, fun c h1 h2 => by omega⟩
theorem Bin.right {lo hi i j : Nat} {P : Nat → Prop} (hP : ∀ c c', lo ≤ c → c ≤ c' → c' < hi → P c' → P c) (h : Bin lo hi i j P) {c : Nat} (c1 : i ≤ c) (c2 : c < j) (hc : P c) : Bin lo hi (c + 1) j P := by
 obtain ⟨b1, b2, b3⟩ := h.b
 exact ⟨⟨by omega, by omega, b3⟩, fun q q1 q2 => hP q c q1 (by omega) (by omega) hc, h.h⟩
theorem Bin.left {lo hi i j : Nat} {P : Nat → Prop} (hP : ∀ c c', lo ≤ c → c ≤ c' → c' < hi → P c' → P c) (h : Bin lo hi i j P) {c : Nat} (c1 : i ≤ c) (c2 : c < j) (hc : ¬ P c) : Bin lo hi i c P := by
 obtain ⟨b1, b2, b3⟩ := h.b
 exact ⟨⟨b1, c1, by omega⟩, h.l, fun q q1 q2 hq => hc (hP c q (by omega) q1 q2 hq)⟩
def keyJ (l : List Jb) (x : Int) : Int := (l.getD x.toNat default).d
structure JEnv (l : List Jb) : Prop where
 ln : l.length ≤ 1000000
 du : ∀ j, j ∈ l → 0 ≤ j.d ∧ j.d ≤ 1099511627776
theorem JEnv.key {l : List Jb} (h : JEnv l) {x : Int} (h0 : 0 ≤ x) (h1 : x < l.length) : 0 ≤ keyJ l x ∧ keyJ l x ≤ 1099511627776 := h.du _ (getD_memA l default (by omega))
abbrev cmpV (l : List Jb) : V := .fn 88 [.cptr (.arr (l.map jbV) .no)]
theorem c88 (l : List Jb) (x y : Int) (H : Hp) (hE : JEnv l) (x0 : 0 ≤ x) (x1 : x < l.length) (y0 : 0 ≤ y) (y1 : y < l.length) : Ret Try.prog 88 [I x, I y, .cptr (.arr (l.map jbV) .no)] H (I (keyJ l x - keyJ l y)) H := by
 have hx := hE.key x0 x1
 have hy := hE.key y0 y1
 have r : R64 (keyJ l x - keyJ l y) := by unfold R64; omega
 unfold keyJ at r ⊢
 refine mk88 _ _ _ rfl (Nat.le_refl _) (.inl rfl) ?_
 simp only [vc88, real]
 repeat (first | (with_reducible first | refine Ju.go ?_ | (refine Hd.go ?_; intro K Q hK hQ; simp only [nod_cptr, e_ldcV, nod_arr, nd_no, nod_imm, ix_jb, x0, x1, true_and, e_fac, Nat.reduceAdd, lv_cons, List.length_nil, Nat.zero_add, Nat.reduceLeDiff, List.getD_cons_succ, List.getD_cons_zero, e_ldc, y0, y1, Try.underlying3, e_sub, r]; subst hK hQ) | refine Jr.go ?_) | refine sd ?_)
 exact end1 (fzI _)
theorem set_id {H : Hp} {b : Nat} {x : Blk} (h : H[b]? = some x) : H.set b x = H := by
 refine List.ext_getElem? fun j => ?_
 by_cases e : b = j
 ·subst e
  rw [List.getElem?_set_self (get_lt h), h]
 ·rw [List.getElem?_set_ne e]
theorem c117 (bk n a b k : Nat) (g : V) (d : List Int) (H : Hp) (hn : d.length = n) (hH : H[bk]? = some (.cells (d.map I))) (h1 : a + k ≤ b) (h2 : b + k ≤ n) (h3 : n ≤ 1000000) :
    RetE Try.prog 117 [.sl bk 0 n n 1, I a, I b, I k, g] H (fun _ H' => ∃ d', Swp a b k d d' ∧ H' = H.set bk (.cells (d'.map I))) := by
  have hbl := get_lt hH
  have hE : ∀ e : List Int, (H.set bk (.cells (e.map I)))[bk]? = some (.cells (e.map I)) := fun e => List.getElem?_set_self hbl
  refine mkE117 _ _ _ _ _ ?_
  simp only [vc117, real]
  repeat (first | (with_reducible first | refine Ju.go ?_ | (refine Hd.go ?_; intro K Q hK hQ; simp only []; subst hK hQ) | refine Jr.go ?_) | refine sd ?_)
  refine loop_of (fun q : Nat × List Int => q.1 ≤ k ∧ Swp a b q.1 d q.2) (fun q => [.sl bk 0 n n 1, I a, I b, I k, I q.1]) (fun q => H.set bk (.cells (q.2.map I))) (fun q => k - q.1) (0, d) ⟨Nat.zero_le _, Swp.zero _ _ _⟩ rfl (set_id hH) ?_
  rintro ⟨i, e⟩ ⟨hi, hS⟩
  simp only at hi hS ⊢
  have hel := hS.l
  repeat (first | (with_reducible first | refine Ju.go ?_ | (refine Hd.go ?_; intro K Q hK hQ; simp only [List.getD_cons_succ, List.getD_cons_zero, nod_imm, Try.underlying3, e_lss, e_cond, decide_eq_true_eq]; subst hK hQ) | refine Jr.go ?_) | refine sd ?_)
  by_cases hlt : i < k
  · have d0 : (i : Int) < k := by omega
    have ea : ((a : Int) + i).toNat = a + i := by omega
    have eb : ((b : Int) + i).toNat = b + i := by omega
    have ra : R64 ((a : Int) + i) := by unfold R64; omega
    have rb : R64 ((b : Int) + i) := by unfold R64; omega
    have ga : 0 ≤ (a : Int) + i := by omega
    have gb : 0 ≤ (b : Int) + i := by omega
    have la : (a : Int) + i < n := by omega
    have lb : (b : Int) + i < n := by omega
    have qa : a + i < e.length := by omega
    have qb : b + i < e.length := by omega
    have r1 : R64 ((i : Int) + 1) := by unfold R64; omega
    repeat (first | (with_reducible first | refine Ju.go ?_ | (refine Hd.go ?_; intro K Q hK hQ; simp only [d0, if_true, List.getD_cons_succ, List.getD_cons_zero, nod_imm, Try.underlying3, e_add, ra, true_and, rb, nod_sl, e_ixS, gb, lb, eb, Nat.mul_one, Nat.zero_add, nod_ptr, ldI_at (hE _), qb, ga, la, ea, qa, stI_at (hE _), List.set_set, List.length_set, r1]; subst hK hQ) | refine Jr.go ?_) | refine sd ?_)
    exact ⟨(i + 1, sw e (a + i) (b + i)), ⟨hlt, hS.step (by omega) (by omega)⟩, rfl, rfl, by show k - (i + 1) < k - i; omega⟩
  · have d0 : ¬ (i : Int) < k := by omega
    obtain rfl : i = k := by omega
    repeat (first | (with_reducible first | refine Ju.go ?_ | (refine Hd.go ?_; intro K Q hK hQ; simp only [d0, if_false]; subst hK hQ) | refine Jr.go ?_) | refine sd ?_)
    exact endW ⟨e, hS, rfl⟩
open Go.ChangeShapes Go.WideShapes Go.ChangeAt Go.RowKit
theorem opens115 {H : Type} {enc : TypeId × Value → H} {W : World} : Opens enc W 115 jbV := fun n cs y h => by
 obtain ⟨hl, hf⟩ := fields Try.underlying115 h
 rw [show Try.prog.cellsOf 115 = 2 by kernel_rfl] at hl
 match cs, hl with
 | [c0, c1], _ =>
  obtain ⟨a, ha⟩ := one (opens3 (enc := enc)) (fun _ => rfl) (fld1 (hf 0 _ rfl) k3 rfl)
  obtain ⟨b, hb⟩ := one (opens3 (enc := enc)) (fun _ => rfl) (fld1 (hf 1 _ rfl) k3 rfl)
  exact ⟨⟨a, b⟩, cr_cons ha (cr_cons hb cr_nil)⟩
theorem opens105 {H : Type} {enc : TypeId × Value → H} {W : World} : Opens enc W 105 fun l : {l : List Jb // l.length ≤ maxLen} => .arr (l.1.map jbV) .no := opens_sliceB (s := 2) Try.underlying105 (by decide) (by kernel_rfl) (fun x => ⟨rfl, rfl⟩) opens115
theorem in_jobs {H : Type} {enc : TypeId × Value → H} {W : World} {base : Nat} {v : Value} {d : DataW H} {p : List MemPlace} (hv : Value.okWide Try.prog W .any base 105 v) (hA : DataW.Trod enc Try.prog W 0 (fun _ => true) true 105 v d p) : ∃ l : List Jb, l.length ≤ 9223372036854775807 ∧ Rel (sg0 W) W (.arr (l.map jbV) .no) v := by
 obtain ⟨x, hx⟩ := in_one Try.underlying105 (opens105 (enc := enc)) (fun _ => rfl) hv hA
 exact ⟨x.1, x.2, hx⟩
end Go.Proofs.Ytlnjhnemmemloaa
namespace Go.Proofs.Ytlnjhnemmemloaa
open Go Go.Ab Go.Proofs
attribute [local congr] g_bin g_nilS g_nilP g_un g_ext g_bx g_fa g_ld g_st g_ix g_ixA g_slc g_mk g_bs g_bd g_nc g_cv g_len g_lenT g_app g_appB g_cpy g_mm g_call g_callG g_calm g_calmG g_range g_res g_pick g_cond g_loop g_Jv g_eqS g_eqP g_fd g_ixT g_ta g_lkp g_upd g_mkM g_appS g_inv g_callE g_callEG g_invE g_zr g_wr
theorem c15x (H : Hp) : Ret Try.prog 15 [] H (B true) H := by
 have := RetE.pick (v := B true) (H0 := H) (Hs := []) (c15 H) rfl rfl (fun v' H' hq => by
  obtain ⟨rfl, hf⟩ := hq
  exact ⟨[], hf.1, fun b blk hb => ⟨blk, by rw [hf.2 b (get_lt hb) (fun e => e)]; exact hb, .inl ⟨rfl, rfl⟩⟩, rfl, fun i k h => (by cases h), fun i k blk h => (by cases h), fun i j k blk blk' h => (by cases h), .keep _ (.imm _)⟩)
 rw [List.append_nil] at this
 exact this
def inT (pw : Int) (l : List Jb) : Bool := (List.range l.length).all fun i => decide ((rdy pw l).getD i 0 ≤ (l.getD i default).d)
theorem rdy_len (pw : Int) (l : List Jb) : (rdy pw l).length = l.length := by unfold rdy; simp
theorem inT_iff {pw : Int} {l : List Jb} : inT pw l = true ↔ ∀ i, i < l.length → (rdy pw l).getD i 0 ≤ (l.getD i default).d := by
 unfold inT
 rw [List.all_eq_true]
 exact ⟨fun h i hi => of_decide_eq_true (h i (List.mem_range.2 hi)), fun h i hi => decide_eq_true (h i (List.mem_range.1 hi))⟩
theorem inT_not {pw : Int} {l : List Jb} {i : Nat} (hi : i < l.length) (h : (l.getD i default).d < (rdy pw l).getD i 0) : inT pw l = false := by
 cases e : inT pw l with
 | false => rfl
 | true => have := inT_iff.1 e i hi; omega
theorem c86 (pw : Int) (l : List Jb) (H : Hp) (ok : okJs pw l = true) : Ret Try.prog 86 [I pw, .arr (l.map jbV) .no] H (B (inT pw l)) H := by
 obtain ⟨h1, h2, h3⟩ := okJs.pw ok
 have hr := rdy_len pw l
 refine mk86 _ _ rfl (Nat.le_refl _) (.inl rfl) ?_
 simp only [vc86, real]
 repeat (first | (with_reducible first | refine Ju.go ?_ | (refine Hd.go ?_; intro K Q hK hQ; simp only [nod_imm, nod_arr, nd_no]; subst hK hQ) | refine Jr.go ?_) | refine sd ?_)
 refine call_of (c85 pw l H ok) ?_
 repeat (first | (with_reducible first | refine Ju.go ?_ | (refine Hd.go ?_; intro K Q hK hQ; simp only [nod_ints, nd_no, e_len]; subst hK hQ) | refine Jr.go ?_) | refine sd ?_)
 refine loop_of (fun i : Nat => i ≤ l.length ∧ ∀ j, j < i → (rdy pw l).getD j 0 ≤ (l.getD j default).d) (fun i => [.arr (l.map jbV) .no, ints (rdy pw l) .no, I (rdy pw l).length, I i]) (fun _ => H) (fun i => l.length - i) 0 ⟨Nat.zero_le _, fun j h => absurd h (Nat.not_lt_zero j)⟩ rfl rfl ?_
 rintro i ⟨hi, hA⟩
 repeat (first | (with_reducible first | refine Ju.go ?_ | (refine Hd.go ?_; intro K Q hK hQ; simp only [List.getD_cons_succ, List.getD_cons_zero, nod_imm, Try.underlying3, e_lss, e_cond, decide_eq_true_eq]; subst hK hQ) | refine Jr.go ?_) | refine sd ?_)
 by_cases hlt : i < l.length
 ·have d0 : (i : Int) < (rdy pw l).length := by omega
  have d1 : i < (rdy pw l).length := by omega
  have d2 : (i : Int) < l.length := by omega
  have r1 : R64 ((i : Int) + 1) := by unfold R64; omega
  by_cases hc : (l.getD i default).d < (rdy pw l).getD i 0
  ·rw [inT_not hlt hc]
   repeat (first | (with_reducible first | refine Ju.go ?_ | (refine Hd.go ?_; intro K Q hK hQ; simp only [d0, if_true, List.getD_cons_succ, List.getD_cons_zero, nod_ints, nd_no, nod_imm, e_ix, Int.toNat_natCast, true_and, nod_cptr, e_ldc, nod_arr, ix_jb, d2, e_fac, Nat.reduceAdd, lv_cons, List.length_nil, Nat.zero_add, Nat.reduceLeDiff, Try.underlying3, e_gtr, hc, decide_true, e_cond]; subst hK hQ) | refine Jr.go ?_) | refine sd ?_)
   exact end1 (fzI _)
  ·repeat (first | (with_reducible first | refine Ju.go ?_ | (refine Hd.go ?_; intro K Q hK hQ; simp only [d0, if_true, List.getD_cons_succ, List.getD_cons_zero, nod_ints, nd_no, nod_imm, e_ix, Int.toNat_natCast, true_and, nod_cptr, e_ldc, nod_arr, ix_jb, d2, e_fac, Nat.reduceAdd, lv_cons, List.length_nil, Nat.zero_add, Nat.reduceLeDiff, Try.underlying3, e_gtr, hc, decide_false, e_cond, Bool.false_eq_true, if_false, e_add, r1]; subst hK hQ) | refine Jr.go ?_) | refine sd ?_)
   exact ⟨i + 1, ⟨hlt, fun j hj => by by_cases e : j = i; exact e ▸ (by omega); exact hA j (by omega)⟩, rfl, rfl, by omega⟩
 ·have d0 : ¬ (i : Int) < (rdy pw l).length := by omega
  obtain rfl : i = l.length := by omega
  rw [inT_iff.2 hA]
  repeat (first | (with_reducible first | refine Ju.go ?_ | (refine Hd.go ?_; intro K Q hK hQ; simp only [d0, if_false]; subst hK hQ) | refine Jr.go ?_) | refine sd ?_)
  exact end1 (fzI _)
theorem c44 (pw : Int) (l : List Jb) (H : Hp) (hl : l.length ≤ 9223372036854775807) : Ret Try.prog 44 [I pw, .arr (l.map jbV) .no] H (.tup [B (okJs pw l && inT pw l), I (if okJs pw l = true then 0 else 2)]) H := by
 refine mk44 _ _ rfl (Nat.le_refl _) (.inl rfl) ?_
 simp only [vc44, real]
 repeat (first | (with_reducible first | refine Ju.go ?_ | (refine Hd.go ?_; intro K Q hK hQ; simp only [nod_imm, nod_arr, nd_no]; subst hK hQ) | refine Jr.go ?_) | refine sd ?_)
 refine call_of (c84 pw l H hl) ?_
 cases h : okJs pw l
 ·repeat (first | (with_reducible first | refine Ju.go ?_ | (refine Hd.go ?_; intro K Q hK hQ; simp only [nod_imm, e_not, Bool.not_false, e_cond, if_true]; subst hK hQ) | refine Jr.go ?_) | refine sd ?_)
  exact end2 rfl rfl (fzI _) (fzI _)
 ·repeat (first | (with_reducible first | refine Ju.go ?_ | (refine Hd.go ?_; intro K Q hK hQ; simp only [nod_imm, e_not, Bool.not_true, e_cond, Bool.false_eq_true, if_false, nod_arr, nd_no]; subst hK hQ) | refine Jr.go ?_) | refine sd ?_)
  refine call_of (c86 pw l _ h) ?_
  repeat (first | (with_reducible first | refine Ju.go ?_ | (refine Hd.go ?_; intro K Q hK hQ; simp only []; subst hK hQ) | refine Jr.go ?_) | refine sd ?_)
  exact end2 rfl rfl (fzI _) (fzI _)
theorem c46 (pw : Int) (l : List Jb) (H : Hp) (hl : l.length ≤ 9223372036854775807) : Ret Try.prog 46 [I pw, .arr (l.map jbV) .no] H (B (okJs pw l)) H := by
 refine mk46 _ _ rfl (Nat.le_refl _) (.inl rfl) ?_
 simp only [vc46, real]
 repeat (first | (with_reducible first | refine Ju.go ?_ | (refine Hd.go ?_; intro K Q hK hQ; simp only [nod_imm, Try.underlying3, e_lss, e_gtr, e_gF, j_or', j_one, nod_arr, nd_no, e_lenA, List.length_map, List.getD_cons_succ, List.getD_cons_zero, e_cond]; subst hK hQ) | refine Jr.go ?_) | refine sd ?_)
 have hD : (decide (pw < 1) || decide (1073741824 < pw) || decide (1000 < (l.length : Int))) = !(inB pw 1 1073741824 && decide ((l.length : Int) ≤ 1000)) := by
  unfold inB
  by_cases h1 : pw < 1 <;> by_cases h2 : 1073741824 < pw <;> by_cases h3 : 1000 < (l.length : Int) <;> simp [h1, h2, h3] <;> omega
 unfold okJs
 rw [hD]
 cases hA : (inB pw 1 1073741824 && decide ((l.length : Int) ≤ 1000))
 ·repeat (first | (with_reducible first | refine Ju.go ?_ | (refine Hd.go ?_; intro K Q hK hQ; simp only [Bool.not_false, if_true]; subst hK hQ) | refine Jr.go ?_) | refine sd ?_)
  exact end1 (fzI _)
 ·rw [Bool.and_eq_true, decide_eq_true_eq] at hA
  repeat (first | (with_reducible first | refine Ju.go ?_ | (refine Hd.go ?_; intro K Q hK hQ; simp only [Bool.not_true, Bool.false_eq_true, if_false]; subst hK hQ) | refine Jr.go ?_) | refine sd ?_)
  refine loop_of (fun i : Nat => i ≤ l.length ∧ (l.take i).any badJ = false) (fun i => [.arr (l.map jbV) .no, I i]) (fun _ => H) (fun i => l.length - i) 0 ⟨Nat.zero_le _, rfl⟩ rfl rfl ?_
  rintro i ⟨hi, hB⟩
  repeat (first | (with_reducible first | refine Ju.go ?_ | (refine Hd.go ?_; intro K Q hK hQ; simp only [List.getD_cons_zero, nod_arr, nd_no, e_lenA, List.length_map, List.getD_cons_succ, nod_imm, Try.underlying3, e_lss, e_cond, decide_eq_true_eq]; subst hK hQ) | refine Jr.go ?_) | refine sd ?_)
  by_cases hlt : i < l.length
  ·have d0 : (i : Int) < l.length := by omega
   have r1 : R64 ((i : Int) + 1) := by unfold R64; omega
   have hb : (decide ((l.getD i default).e < 0) || decide (1073741824 < (l.getD i default).e) || decide ((l.getD i default).d < 0) || decide (1099511627776 < (l.getD i default).d)) = badJ (l.getD i default) := by
    unfold badJ inB
    generalize l.getD i default = j
    by_cases h1 : j.e < 0 <;> by_cases h2 : 1073741824 < j.e <;> by_cases h3 : j.d < 0 <;> by_cases h4 : 1099511627776 < j.d <;> simp [h1, h2, h3, h4] <;> omega
   have ht : (l.take (i + 1)).any badJ = ((l.take i).any badJ || badJ (l.getD i default)) := by rw [take_snocA l default hlt, List.any_append]; simp
   repeat (first | (with_reducible first | refine Ju.go ?_ | (refine Hd.go ?_; intro K Q hK hQ; simp only [d0, if_true, List.getD_cons_zero, nod_arr, nd_no, List.getD_cons_succ, nod_imm, ix_jb, Int.toNat_natCast, true_and, nod_cptr, e_fac, Nat.zero_add, lv_cons, List.length_nil, Nat.reduceAdd, Nat.reduceLeDiff, e_ldc, Try.underlying3, e_lss, e_gtr, e_gF, j_fl, decide_eq_false_iff_not, j_or', j_side, j_one, hb, e_cond]; subst hK hQ) | refine Jr.go ?_) | refine sd ?_)
   cases hj : badJ (l.getD i default)
   ·repeat (first | (with_reducible first | refine Ju.go ?_ | (refine Hd.go ?_; intro K Q hK hQ; simp only [Bool.false_eq_true, if_false, List.getD_cons_succ, List.getD_cons_zero, nod_imm, Try.underlying3, e_add, r1, true_and]; subst hK hQ) | refine Jr.go ?_) | refine sd ?_)
    exact ⟨i + 1, ⟨hlt, by rw [ht, hB, hj]; rfl⟩, rfl, rfl, by omega⟩
   ·have : l.any badJ = true := List.any_eq_true.2 ⟨_, getD_memA l default hlt, hj⟩
    rw [this]
    repeat (first | (with_reducible first | refine Ju.go ?_ | (refine Hd.go ?_; intro K Q hK hQ; simp only [if_true]; subst hK hQ) | refine Jr.go ?_) | refine sd ?_)
    exact end1 (fzI _)
  ·have d0 : ¬ (i : Int) < l.length := by omega
   rw [List.take_of_length_le (by omega)] at hB
   rw [hB]
   repeat (first | (with_reducible first | refine Ju.go ?_ | (refine Hd.go ?_; intro K Q hK hQ; simp only [d0, if_false]; subst hK hQ) | refine Jr.go ?_) | refine sd ?_)
   exact end1 (fzI _)
def insO (l : List Jb) (o : List Int) (i : Int) : List Int := (o.takeWhile fun x => decide (keyJ l x ≤ keyJ l i)) ++ i :: (o.dropWhile fun x => decide (keyJ l x ≤ keyJ l i))
def ordN (l : List Jb) : Nat → List Int
 | 0 => []
 | n + 1 => insO l (ordN l n) n
def ordL (l : List Jb) : List Int := ordN l l.length
structure Ord (l : List Jb) (n : Nat) (o : List Int) : Prop where
 s : o.Pairwise (ltK (keyJ l))
 p : o.Perm ((List.range n).map Int.ofNat)
theorem Ord.mem {l : List Jb} {n : Nat} {o : List Int} (h : Ord l n o) {x : Int} (hx : x ∈ o) : 0 ≤ x ∧ x < n := by
 have := h.p.mem_iff.1 hx
 rw [List.mem_map] at this
 obtain ⟨k, hk, rfl⟩ := this
 have := List.mem_range.1 hk
 show 0 ≤ (k : Int) ∧ (k : Int) < n
 omega
theorem Ord.len {l : List Jb} {n : Nat} {o : List Int} (h : Ord l n o) : o.length = n := by rw [h.p.length_eq]; simp
theorem Ord.eq {l : List Jb} {n : Nat} {o o' : List Int} (h : Ord l n o) (k : Ord l n o') : o = o' :=
 List.Perm.eq_of_pairwise (fun a b _ _ h1 h2 => absurd h2 (ltK_as h1)) h.s k.s (h.p.trans k.p.symm)
theorem dw_gt {l : List Jb} {i : Int} : ∀ {o : List Int}, o.Pairwise (ltK (keyJ l)) → ∀ q, q ∈ o.dropWhile (fun x => decide (keyJ l x ≤ keyJ l i)) → keyJ l i < keyJ l q
 | [], _, q, h => by cases h
 | x :: o, hs, q, h => by
  rw [List.dropWhile_cons] at h
  obtain ⟨h1, h2⟩ := List.pairwise_cons.1 hs
  by_cases c : keyJ l x ≤ keyJ l i
  ·rw [if_pos (decide_eq_true c)] at h
   exact dw_gt h2 q h
  ·rw [if_neg (by rw [decide_eq_false c]; decide)] at h
   rcases List.mem_cons.1 h with rfl | h
   ·omega
   ·have := h1 q h
    unfold ltK at this; omega
theorem ordN_ok (l : List Jb) : ∀ n, Ord l n (ordN l n)
 | 0 => ⟨List.Pairwise.nil, List.Perm.nil⟩
 | n + 1 => by
  have h := ordN_ok l n
  have hm := fun x (hx : x ∈ ordN l n) => h.mem hx
  have he := List.takeWhile_append_dropWhile (p := fun x => decide (keyJ l x ≤ keyJ l (n : Int))) (l := ordN l n)
  have hd := dw_gt (i := (n : Int)) h.s
  have ht : ∀ x, x ∈ (ordN l n).takeWhile (fun x => decide (keyJ l x ≤ keyJ l (n : Int))) → keyJ l x ≤ keyJ l (n : Int) := fun x hx => by
   have := List.all_eq_true.1 (List.all_takeWhile (l := ordN l n) (p := fun x => decide (keyJ l x ≤ keyJ l (n : Int)))) x hx
   exact of_decide_eq_true this
  have hs := h.s
  have hp := h.p
  show Ord l (n + 1) (insO l (ordN l n) n)
  unfold insO
  generalize (ordN l n).takeWhile (fun x => decide (keyJ l x ≤ keyJ l (n : Int))) = P at *
  generalize (ordN l n).dropWhile (fun x => decide (keyJ l x ≤ keyJ l (n : Int))) = Q at *
  rw [← he] at hm hs hp
  obtain ⟨s1, s2, s3⟩ := List.pairwise_append.1 hs
  refine ⟨List.pairwise_append.2 ⟨s1, List.pairwise_cons.2 ⟨fun q hq => .inl (hd q hq), s2⟩, fun a ha b hb => ?_⟩, ?_⟩
  ·have ha2 := hm a (List.mem_append.2 (.inl ha))
   have hta := ht a ha
   rcases List.mem_cons.1 hb with rfl | hb
   ·unfold ltK; omega
   ·exact s3 a ha b hb
  ·rw [List.range_succ, List.map_append]
   exact (List.perm_middle.trans (List.Perm.cons _ hp)).trans (List.perm_append_singleton _ _).symm
theorem ordL_ok (l : List Jb) : Ord l l.length (ordL l) := ordN_ok l _
def srtJ (l : List Jb) (o : List Int) : List Jb := o.map fun x => l.getD x.toNat default
theorem perm_sumI {a b : List Int} (h : a.Perm b) : a.sum = b.sum := by
 induction h with
 | nil => rfl
 | cons x _ ih => rw [List.sum_cons, List.sum_cons, ih]
 | swap x y l => simp only [List.sum_cons]; omega
 | trans _ _ h1 h2 => exact h1.trans h2
theorem sum_sub {l : List Jb} (h0 : ∀ j, j ∈ l → 0 ≤ j.e) : ∀ (n : Nat) (S : List Int), S.Nodup → (∀ x, x ∈ S → 0 ≤ x ∧ x < n) → n ≤ l.length → sumE (srtJ l S) ≤ sumE (l.take n)
 | 0, S, _, hS, _ => by
  have : S = [] := by
   cases S with
   | nil => rfl
   | cons x S => have := hS x (by simp); omega
  rw [this, List.take_zero]; exact Int.le_refl _
 | n + 1, S, hN, hS, hn => by
  have e := take_snocA l default (i := n) (by omega)
  have h1 := h0 _ (getD_memA l default (i := n) (by omega))
  rw [e, sumE_snoc]
  by_cases hm : (n : Int) ∈ S
  ·have hp := List.perm_cons_erase hm
   have ih := sum_sub h0 n (S.erase (n : Int)) (hN.erase _) (fun x hx => by
    have h2 := hS x (List.mem_of_mem_erase hx)
    have h3 : x ≠ (n : Int) := fun e => hN.not_mem_erase (e ▸ hx)
    omega) (by omega)
   have h4 : sumE (srtJ l S) = (l.getD n default).e + sumE (srtJ l (S.erase (n : Int))) := by
    unfold sumE srtJ
    rw [perm_sumI ((hp.map _).map _), List.map_cons, List.map_cons, List.sum_cons]; rfl
   omega
  ·have ih := sum_sub h0 n S hN (fun x hx => by
    have h2 := hS x hx
    have h3 : x ≠ (n : Int) := fun e => hm (e ▸ hx)
    omega) (by omega)
   omega
theorem max_of : ∀ (S : List Int), S ≠ [] → ∃ z, z ∈ S ∧ ∀ x, x ∈ S → x ≤ z
 | [], h => absurd rfl h
 | [a], _ => ⟨a, by simp, fun x hx => by rw [List.mem_singleton.1 hx]; exact Int.le_refl _⟩
 | a :: b :: S, _ => by
  obtain ⟨z, h1, h2⟩ := max_of (b :: S) (by simp)
  by_cases c : a ≤ z
  ·exact ⟨z, List.mem_cons_of_mem _ h1, fun x hx => by
    rcases List.mem_cons.1 hx with rfl | hx
    ·exact c
    ·exact h2 x hx⟩
  ·exact ⟨a, List.mem_cons_self, fun x hx => by
    rcases List.mem_cons.1 hx with rfl | hx
    ·exact Int.le_refl _
    ·have := h2 x hx; omega⟩
theorem srtJ_len (l : List Jb) (o : List Int) : (srtJ l o).length = o.length := by unfold srtJ; simp
theorem rdy_get (pw : Int) (l : List Jb) {i : Nat} (hi : i < l.length) : (rdy pw l).getD i 0 = (sumE (l.take (i + 1)) + pw - 1).tdiv pw := by
 unfold rdy
 rw [List.getD_eq_getElem?_getD, List.getElem?_map, List.getElem?_range hi]; rfl
theorem edf {pw : Int} {l : List Jb} (ok : okJs pw l = true) (h : inT pw l = true) : inT pw (srtJ l (ordL l)) = true := by
 obtain ⟨h1, h2, h3⟩ := okJs.pw ok
 have hO := ordL_ok l
 have hol := hO.len
 refine inT_iff.2 fun i hi => ?_
 rw [srtJ_len] at hi
 have hN : (ordL l).Nodup := (hO.p.nodup_iff).2 (by
  exact List.pairwise_map.2 ((List.nodup_range (n := l.length)).imp fun h e => h (Int.ofNat.inj e)))
 have hS0 : (ordL l).take (i + 1) ≠ [] := fun e => by
  have := congrArg List.length e
  rw [List.length_take, List.length_nil] at this; omega
 obtain ⟨z, z1, z2⟩ := max_of _ hS0
 have zm := hO.mem (List.mem_of_mem_take z1)
 have hzn : ((z.toNat : Nat) : Int) = z := by omega
 have hsum := sum_sub (l := l) (fun j hj => (h3 j hj).1.1) (z.toNat + 1) ((ordL l).take (i + 1)) (hN.sublist (List.take_sublist _ _)) (fun x hx => by
  have a1 := hO.mem (List.mem_of_mem_take hx)
  have a2 := z2 x hx
  omega) (by omega)
 have hz := inT_iff.1 h z.toNat (by omega)
 rw [rdy_get pw l (by omega)] at hz
 rw [rdy_get pw _ (by rw [srtJ_len]; omega)]
 have e1 : (srtJ l (ordL l)).take (i + 1) = srtJ l ((ordL l).take (i + 1)) := by unfold srtJ; rw [List.map_take]
 have e2 : (srtJ l (ordL l)).getD i default = l.getD ((ordL l).getD i 0).toNat default := by
  unfold srtJ
  rw [List.getD_eq_getElem?_getD, List.getElem?_map, List.getElem?_eq_getElem hi, List.getD_eq_getElem?_getD (l := ordL l), List.getElem?_eq_getElem hi]; rfl
 have hk : keyJ l z ≤ keyJ l ((ordL l).getD i 0) := by
  obtain ⟨q, hq, eq⟩ := List.mem_iff_getElem.1 z1
  rw [List.getElem_take] at eq
  rw [List.length_take] at hq
  have e3 : (ordL l).getD i 0 = (ordL l)[i] := by rw [List.getD_eq_getElem?_getD, List.getElem?_eq_getElem hi]; rfl
  rw [e3]
  by_cases c : q = i
  ·subst c; rw [eq]; exact Int.le_refl _
  ·have := List.pairwise_iff_getElem.1 hO.s q i (by omega) hi (by omega)
   rw [eq] at this
   unfold ltK at this; omega
 rw [e1, e2]
 have n1 : 0 ≤ sumE (srtJ l ((ordL l).take (i + 1))) := (sumE_rng (l := srtJ l ((ordL l).take (i + 1))) fun j hj => by
  unfold srtJ at hj
  obtain ⟨x, hx, rfl⟩ := List.mem_map.1 hj
  have a1 := hO.mem (List.mem_of_mem_take hx)
  exact (h3 _ (getD_memA l default (by omega))).1).1
 rw [Int.tdiv_eq_ediv_of_nonneg (by omega)] at hz ⊢
 have := Int.ediv_le_ediv (show 0 < pw by omega) (show sumE (srtJ l ((ordL l).take (i + 1))) + pw - 1 ≤ sumE (l.take (z.toNat + 1)) + pw - 1 by omega)
 unfold keyJ at hk
 omega
theorem Rg.val {a b : Nat} {d d' : List Int} (h : Rg a b d d') (hb : b ≤ d.length) {P : Int → Prop} (hP : ∀ i, i < d.length → P (d.getD i 0)) : ∀ i, i < d'.length → P (d'.getD i 0) := fun i hi => by
 have hl := h.l
 by_cases c : a ≤ i ∧ i < b
 ·obtain ⟨j, -, j2, e⟩ := h.m i c.1 c.2
  rw [e]; exact hP j (by omega)
 ·rw [h.o i (by omega)]; exact hP i (by omega)
theorem c116 (bk n a m b : Nat) (g : V) (d : List Int) (H : Hp) (hn : d.length = n) (hH : H[bk]? = some (.cells (d.map I))) (h1 : a < m) (h2 : m < b) (h3 : b ≤ n) (h4 : n ≤ 1000000) :
    RetE Try.prog 116 [.sl bk 0 n n 1, I a, I m, I b, g] H (fun _ H' => ∃ d', Rot a m b d d' ∧ H' = H.set bk (.cells (d'.map I))) := by
  have hbl := get_lt hH
  have hE : ∀ e : List Int, (H.set bk (.cells (e.map I)))[bk]? = some (.cells (e.map I)) := fun e => List.getElem?_set_self hbl
  have r1 : R64 ((m : Int) - a) := by unfold R64; omega
  have r2 : R64 ((b : Int) - m) := by unfold R64; omega
  have e1 : (m : Int) - a = (m - a : Nat) := by omega
  have e2 : (b : Int) - m = (b - m : Nat) := by omega
  refine mkE116 _ _ _ _ _ ?_
  simp only [vc116, real]
  repeat (first | (with_reducible first | refine Ju.go ?_ | (refine Hd.go ?_; intro K Q hK hQ; simp only [nod_imm, Try.underlying3, e_sub, r1, true_and, r2]; subst hK hQ) | refine Jr.go ?_) | refine sd ?_)
  rw [e1, e2]
  have q1 : m - (m - a) = a := by omega
  have q2 : m + (b - m) = b := by omega
  refine loop_of (fun q : Nat × Nat × List Int => 1 ≤ q.1 ∧ q.1 ≤ m ∧ 1 ≤ q.2.1 ∧ m + q.2.1 ≤ n ∧ q.2.2.length = n ∧ ∀ f, Rot (m - q.1) m (m + q.2.1) q.2.2 f → Rot a m b d f) (fun q => [.sl bk 0 n n 1, I m, g, I q.1, I q.2.1]) (fun q => H.set bk (.cells (q.2.2.map I))) (fun q => q.1 + q.2.1) (m - a, b - m, d) ⟨by show 1 ≤ m - a; omega, by show m - a ≤ m; omega, by show 1 ≤ b - m; omega, by show m + (b - m) ≤ n; omega, hn, fun f hf => by simp only [q1, q2] at hf; exact hf⟩ rfl (set_id hH) ?_
  rintro ⟨i, j, e⟩ ⟨hi1, him, hj1, hjn, hel, hF⟩
  simp only at hi1 him hj1 hjn hel hF ⊢
  have em : (m : Int) - i = (m - i : Nat) := by omega
  have ej : (m : Int) + j - i = (m + j - i : Nat) := by omega
  have rm : R64 ((m : Int) - i) := by unfold R64; omega
  have rj : R64 ((m : Int) + j) := by unfold R64; omega
  have rk : R64 ((m : Int) + j - i) := by unfold R64; omega
  have rs : R64 ((i : Int) - j) := by unfold R64; omega
  have rt : R64 ((j : Int) - i) := by unfold R64; omega
  repeat (first | (with_reducible first | refine Ju.go ?_ | (refine Hd.go ?_; intro K Q hK hQ; simp only [List.getD_cons_succ, List.getD_cons_zero, nod_imm, Try.underlying3, e_neq, e_cond, Bool.not_eq_true', decide_eq_false_iff_not]; subst hK hQ) | refine Jr.go ?_) | refine sd ?_)
  by_cases hij : i = j
  · subst hij
    have d0 : ((i : Int) = i) = True := eq_true rfl
    repeat (first | (with_reducible first | refine Ju.go ?_ | (refine Hd.go ?_; intro K Q hK hQ; simp only [not_true_eq_false, if_false, List.getD_cons_succ, List.getD_cons_zero, nod_imm, Try.underlying3, e_sub, rm, true_and, nod_sl, nod_nod]; subst hK hQ) | refine Jr.go ?_) | refine sd ?_)
    rw [em]
    refine callE_of (c117 bk n (m - i) m i _ e _ hel (hE _) (by omega) (by omega) h4) ?_
    rintro v H' ⟨f, hS, rfl⟩
    repeat (first | (with_reducible first | refine Ju.go ?_ | (refine Hd.go ?_; intro K Q hK hQ; simp only []; subst hK hQ) | refine Jr.go ?_) | refine sd ?_)
    exact endW ⟨f, hF f (Rot.half him hS), by rw [List.set_set]⟩
  · have d0 : ¬ (i : Int) = j := by omega
    by_cases hlt : j < i
    · have d1 : (j : Int) < i := by omega
      repeat (first | (with_reducible first | refine Ju.go ?_ | (refine Hd.go ?_; intro K Q hK hQ; simp only [d0, not_false_eq_true, if_true, List.getD_cons_succ, List.getD_cons_zero, nod_imm, Try.underlying3, e_gtr, d1, decide_true, e_cond, e_sub, rm, true_and, nod_sl, nod_nod]; subst hK hQ) | refine Jr.go ?_) | refine sd ?_)
      rw [em]
      refine callE_of (c117 bk n (m - i) m j _ e _ hel (hE _) (by omega) (by omega) h4) ?_
      rintro v H' ⟨f, hS, rfl⟩
      repeat (first | (with_reducible first | refine Ju.go ?_ | (refine Hd.go ?_; intro K Q hK hQ; simp only [List.getD_cons_zero, List.getD_cons_succ, nod_imm, Try.underlying3, e_sub, rs, true_and]; subst hK hQ) | refine Jr.go ?_) | refine sd ?_)
      exact ⟨(i - j, j, f), ⟨by show 1 ≤ i - j; omega, by show i - j ≤ m; omega, hj1, hjn, by show f.length = n; rw [hS.l]; exact hel, fun x hx => hF x (Rot.left him hlt hS hx)⟩, by show [_, _, _, I ((i - j : Nat) : Int), _] = _; rw [show ((i - j : Nat) : Int) = (i : Int) - j by omega]; rfl, by rw [List.set_set], by show i - j + j < i + j; omega⟩
    · have d1 : ¬ (j : Int) < i := by omega
      repeat (first | (with_reducible first | refine Ju.go ?_ | (refine Hd.go ?_; intro K Q hK hQ; simp only [d0, not_false_eq_true, if_true, List.getD_cons_succ, List.getD_cons_zero, nod_imm, Try.underlying3, e_gtr, d1, decide_false, e_cond, Bool.false_eq_true, if_false, e_sub, rm, true_and, e_add, rj, rk, nod_sl, nod_nod]; subst hK hQ) | refine Jr.go ?_) | refine sd ?_)
      rw [em, ej]
      refine callE_of (c117 bk n (m - i) (m + j - i) i _ e _ hel (hE _) (by omega) (by omega) h4) ?_
      rintro v H' ⟨f, hS, rfl⟩
      repeat (first | (with_reducible first | refine Ju.go ?_ | (refine Hd.go ?_; intro K Q hK hQ; simp only [List.getD_cons_zero, List.getD_cons_succ, nod_imm, Try.underlying3, e_sub, rt, true_and]; subst hK hQ) | refine Jr.go ?_) | refine sd ?_)
      exact ⟨(i, j - i, f), ⟨hi1, him, by show 1 ≤ j - i; omega, by show m + (j - i) ≤ n; omega, by show f.length = n; rw [hS.l]; exact hel, fun x hx => hF x (Rot.right him (by omega) hS hx)⟩, by show [_, _, _, _, I ((j - i : Nat) : Int)] = _; rw [show ((j - i : Nat) : Int) = (j : Int) - i by omega]; rfl, by rw [List.set_set], by show i + (j - i) < i + j; omega⟩
theorem c112 (l : List Jb) (bk n a b : Nat) (d : List Int) (H : Hp) (hJ : JEnv l) (hn : d.length = n) (hH : H[bk]? = some (.cells (d.map I))) (h1 : a ≤ b) (h2 : b ≤ n) (h3 : n ≤ 1000000)
    (hV : ∀ i, i < d.length → 0 ≤ d.getD i 0 ∧ d.getD i 0 < l.length) (hI : ∀ i j, a ≤ i → i < j → j < b → d.getD i 0 < d.getD j 0) :
    RetE Try.prog 112 [.sl bk 0 n n 1, I a, I b, cmpV l] H (fun _ H' => ∃ d', Mg (keyJ l) a b d d' ∧ H' = H.set bk (.cells (d'.map I))) := by
  have hbl := get_lt hH
  have hE : ∀ e : List Int, (H.set bk (.cells (e.map I)))[bk]? = some (.cells (e.map I)) := fun e => List.getElem?_set_self hbl
  have ra : R64 ((a : Int) + 1) := by unfold R64; omega
  refine mkE112 _ _ _ _ ?_
  simp only [vc112, real]
  repeat (first | (with_reducible first | refine Ju.go ?_ | (refine Hd.go ?_; intro K Q hK hQ; simp only [nod_imm, Try.underlying3, e_add, ra, true_and]; subst hK hQ) | refine Jr.go ?_) | refine sd ?_)
  by_cases hab : a = b
  · subst hab
    refine loop_of (fun _ : Nat => True) (fun _ => [.sl bk 0 n n 1, I a, I a, cmpV l, I ((a : Int) + 1)]) (fun _ => H) (fun _ => 0) 0 trivial rfl rfl ?_
    rintro i -
    have d0 : ¬ (a : Int) + 1 < a := by omega
    repeat (first | (with_reducible first | refine Ju.go ?_ | (refine Hd.go ?_; intro K Q hK hQ; simp only [List.getD_cons_succ, List.getD_cons_zero, nod_imm, Try.underlying3, e_lss, d0, decide_false, e_cond, Bool.false_eq_true, if_false]; subst hK hQ) | refine Jr.go ?_) | refine sd ?_)
    exact endW ⟨d, ⟨Rg.refl _ _ _, Srd.one _ _ (by omega)⟩, (set_id hH).symm⟩
  · refine loop_of (fun q : Nat × List Int => a + 1 ≤ q.1 ∧ q.1 ≤ b ∧ Rg a q.1 d q.2 ∧ Srd (keyJ l) a q.1 q.2) (fun q => [.sl bk 0 n n 1, I a, I b, cmpV l, I q.1]) (fun q => H.set bk (.cells (q.2.map I))) (fun q => b - q.1) (a + 1, d) ⟨Nat.le_refl _, by show a + 1 ≤ b; omega, Rg.refl _ _ _, Srd.one _ _ (Nat.le_refl _)⟩ rfl (set_id hH) ?_
    rintro ⟨i, e⟩ ⟨hi1, hi2, hR, hS⟩
    simp only at hi1 hi2 hR hS ⊢
    have hel := hR.l
    have hVe := hR.val (by omega) (P := fun x => 0 ≤ x ∧ x < l.length) hV
    repeat (first | (with_reducible first | refine Ju.go ?_ | (refine Hd.go ?_; intro K Q hK hQ; simp only [List.getD_cons_succ, List.getD_cons_zero, nod_imm, Try.underlying3, e_lss, e_cond, decide_eq_true_eq]; subst hK hQ) | refine Jr.go ?_) | refine sd ?_)
    by_cases hlt : i < b
    · have d0 : (i : Int) < b := by omega
      repeat (first | (with_reducible first | refine Ju.go ?_ | (refine Hd.go ?_; intro K Q hK hQ; simp only [d0, if_true]; subst hK hQ) | refine Jr.go ?_) | refine sd ?_)
      have ei : e.getD i 0 = d.getD i 0 := hR.o i (.inr (Nat.le_refl _))
      have hdec : ∀ h, a ≤ h → h < i → e.getD h 0 < e.getD i 0 := fun h x1 x2 => by
        obtain ⟨j, j1, j2, ej⟩ := hR.m h x1 x2
        rw [ei, ej]; exact hI j i j1 j2 hlt
      refine loop_of (fun q : Nat × List Int => a ≤ q.1 ∧ q.1 ≤ i ∧ Rot q.1 i (i + 1) e q.2 ∧ ∀ h, q.1 ≤ h → h < i → ltK (keyJ l) (e.getD i 0) (e.getD h 0)) (fun q => [.sl bk 0 n n 1, I a, I b, cmpV l, I i, I q.1]) (fun q => H.set bk (.cells (q.2.map I))) (fun q => q.1) (i, e) ⟨by show a ≤ i; omega, Nat.le_refl _, Rot.none e (.inl rfl) (Nat.le_refl _) (by omega), fun h x1 x2 => by omega⟩ rfl rfl ?_
      rintro ⟨j, f⟩ ⟨hj1, hj2, hO, hG⟩
      simp only at hj1 hj2 hO hG ⊢
      have hfl := hO.l
      have fj : f.getD j 0 = e.getD i 0 := by rw [hO.g, if_pos (by omega)]; congr 1; omega
      have hfin : (∀ h, a ≤ h → h < j → ltK (keyJ l) (e.getD h 0) (e.getD i 0)) → ∃ s' : Nat × List Int, (a + 1 ≤ s'.1 ∧ s'.1 ≤ b ∧ Rg a s'.1 d s'.2 ∧ Srd (keyJ l) a s'.1 s'.2) ∧ [V.sl bk 0 n n 1, I a, I b, cmpV l, I s'.1] = [V.sl bk 0 n n 1, I a, I b, cmpV l, I ((i : Int) + 1)] ∧ H.set bk (.cells (s'.2.map I)) = H.set bk (.cells (f.map I)) ∧ b - s'.1 < b - i := fun hlo =>
        ⟨(i + 1, f), ⟨by show a + 1 ≤ i + 1; omega, hlt, (hR.mono (Nat.le_refl _) (Nat.le_succ i)).trans ((hO.rg hj2 (by omega)).mono hj1 (Nat.le_refl _)), one_right hS hj1 hj2 hlo hG hO⟩, rfl, rfl, by show b - (i + 1) < b - i; omega⟩
      repeat (first | (with_reducible first | refine Ju.go ?_ | (refine Hd.go ?_; intro K Q hK hQ; simp only [List.getD_cons_succ, List.getD_cons_zero, nod_imm, Try.underlying3, e_gtr, nod_sl, nod_fn, e_callG, e_sub, e_ixS, Nat.mul_one, Nat.zero_add, nod_ptr, Int.toNat_natCast, e_gT, j_tl, decide_eq_true_eq, j_side]; subst hK hQ) | refine Jr.go ?_) | refine sd ?_)
      by_cases hja : a < j
      · have d1 : (a : Int) < j := by omega
        have d1n : (j : Int) < n := by omega
        have d2 : (0 : Int) ≤ (j : Int) - 1 := by omega
        have d3 : (j : Int) - 1 < n := by omega
        have e3 : ((j : Int) - 1).toNat = j - 1 := by omega
        have r3 : R64 ((j : Int) - 1) := by unfold R64; omega
        have q1 : j < f.length := by omega
        have q2 : j - 1 < f.length := by omega
        have fj1 : f.getD (j - 1) 0 = e.getD (j - 1) 0 := by rw [hO.g, if_neg (by omega), if_neg (by omega)]
        have v1 := hVe i (by omega)
        have v2 := hVe (j - 1) (by omega)
        repeat (first | (with_reducible first | refine Ju.go ?_ | (refine Hd.go ?_; intro K Q hK hQ; simp only [d1, decide_true, cond_true, ldI_at (hE _), q1, fj, true_and, e3, q2, fj1, nod_imm]; subst hK hQ) | refine Jr.go ?_) | refine sd ?_)
        refine call_ofD (c88 l _ _ _ hJ v1.1 v1.2 v2.1 v2.2) ?_
        have hd := hdec (j - 1) (by omega) (by omega)
        by_cases hc : keyJ l (e.getD i 0) - keyJ l (e.getD (j - 1) 0) < 0
        · have es : sw f j (j - 1) = (f.set j (e.getD (j - 1) 0)).set (j - 1) (e.getD i 0) := by unfold sw; rw [fj, fj1]
          have hO2 : Rot (j - 1) i (i + 1) e (sw f j (j - 1)) := by
            have := Rot.down (k := j - 1) (m := i) (d := e) (d' := f) (by rw [show j - 1 + 1 = j by omega]; exact hO) (by omega) (by omega)
            rwa [show j - 1 + 1 = j by omega] at this
          rw [es] at hO2
          have q3 : j - 1 < (f.set j (e.getD (j - 1) 0)).length := by rw [List.length_set]; omega
          repeat (first | (with_reducible first | refine Ju.go ?_ | (refine Hd.go ?_; intro K Q hK hQ; simp only [nod_imm, e_lss, hc, decide_true, e_cond, if_true, List.getD_cons_zero, List.getD_cons_succ, Try.underlying3, e_sub, r3, true_and, nod_sl, e_ixS, d2, d3, e3, Nat.mul_one, Nat.zero_add, nod_ptr, ldI_at (hE _), q2, fj1, d1n, Int.toNat_natCast, q1, fj, stI_at (hE _), List.set_set, q3]; subst hK hQ) | refine Jr.go ?_) | refine sd ?_)
          exact ⟨(j - 1, _), ⟨by show a ≤ j - 1; omega, by show j - 1 ≤ i; omega, hO2, fun h x1 x2 => by
            by_cases c : h = j - 1
            · rw [c]; exact .inl (by omega)
            · exact hG h (by have : j - 1 ≤ h := x1; omega) x2⟩, by show [_, _, _, _, _, I ((j - 1 : Nat) : Int)] = _; rw [show ((j - 1 : Nat) : Int) = (j : Int) - 1 by omega]; rfl, rfl, by show j - 1 < j; omega⟩
        · repeat (first | (with_reducible first | refine Ju.go ?_ | (refine Hd.go ?_; intro K Q hK hQ; simp only [nod_imm, e_lss, hc, decide_false, e_cond, Bool.false_eq_true, if_false, List.getD_cons_succ, List.getD_cons_zero, Try.underlying3, e_add]; subst hK hQ) | refine Jr.go ?_) | refine sd ?_)
          refine hfin fun h x1 x2 => ?_
          have k1 := hS.le (i := h) (j := j - 1) x1 (by omega) (by omega)
          have k2 := hdec h x1 (by omega)
          unfold ltK; omega
      · have d1 : ¬ (a : Int) < j := by omega
        repeat (first | (with_reducible first | refine Ju.go ?_ | (refine Hd.go ?_; intro K Q hK hQ; simp only [d1, decide_false, cond_false, nod_imm, e_cond, Bool.false_eq_true, if_false, List.getD_cons_succ, List.getD_cons_zero, Try.underlying3, e_add]; subst hK hQ) | refine Jr.go ?_) | refine sd ?_)
        exact hfin fun h x1 x2 => by omega
    · have d0 : ¬ (i : Int) < b := by omega
      obtain rfl : i = b := by omega
      repeat (first | (with_reducible first | refine Ju.go ?_ | (refine Hd.go ?_; intro K Q hK hQ; simp only [d0, if_false]; subst hK hQ) | refine Jr.go ?_) | refine sd ?_)
      exact endW ⟨e, ⟨hR, hS⟩, rfl⟩
theorem hlf {i j h : Nat} (hh : h = (i + j) / 2) (hb : i + j ≤ 4000000) : (IntKind.u64.wrap ((i : Int) + j)).fdiv (2 ^ min (Int.toNat 1) IntKind.u64.bits) = (h : Int) := by
 have e1 : IntKind.u64.wrap ((i : Int) + j) = (i : Int) + j := by
  unfold IntKind.wrap
  simp [IntKind.signed, IntKind.bits]
  omega
 have e2 : (2 : Int) ^ min (Int.toNat 1) IntKind.u64.bits = 2 := by decide
 rw [e1, e2, Int.fdiv_eq_ediv_of_nonneg _ (by decide)]
 omega
theorem c113 (l : List Jb) (hJ : JEnv l) (bk n : Nat) (h3 : n ≤ 1000000) : ∀ (w a m b : Nat) (d : List Int) (H : Hp), b - a ≤ w → d.length = n → H[bk]? = some (.cells (d.map I)) → a < m → m < b → b ≤ n →
    (∀ i, i < d.length → 0 ≤ d.getD i 0 ∧ d.getD i 0 < l.length) → Srd (keyJ l) a m d → Srd (keyJ l) m b d → Sep a m b d →
    RetE Try.prog 113 [.sl bk 0 n n 1, I a, I m, I b, cmpV l] H (fun _ H' => ∃ d', Mg (keyJ l) a b d d' ∧ H' = H.set bk (.cells (d'.map I))) := by
  intro w
  induction w with
  | zero => intro a m b d H hw; omega
  | succ w ih =>
    intro a m b d H hw hn hH ham hmb hbn hV hL hR hP
    have hbl := get_lt hH
    have hE : ∀ e : List Int, (H.set bk (.cells (e.map I)))[bk]? = some (.cells (e.map I)) := fun e => List.getElem?_set_self hbl
    have r1 : R64 ((m : Int) - a) := by unfold R64; omega
    have r2 : R64 ((b : Int) - m) := by unfold R64; omega
    refine mkE113 _ _ _ _ _ ?_
    simp only [vc113, real]
    repeat (first | (with_reducible first | refine Ju.go ?_ | (refine Hd.go ?_; intro K Q hK hQ; simp only [nod_imm, Try.underlying3, e_sub, r1, true_and, e_eql, e_cond, decide_eq_true_eq]; subst hK hQ) | refine Jr.go ?_) | refine sd ?_)
    by_cases c1 : m = a + 1
    · subst c1
      have e1 : (((a + 1 : Nat) : Int) - a = 1) = True := eq_true (by omega)
      repeat (first | (with_reducible first | refine Ju.go ?_ | (refine Hd.go ?_; intro K Q hK hQ; simp only [e1, if_true]; subst hK hQ) | refine Jr.go ?_) | refine sd ?_)
      refine loop_of (fun q : Nat × Nat => Bin (a + 1) b q.1 q.2 fun h => keyJ l (d.getD h 0) < keyJ l (d.getD a 0)) (fun q => [.sl bk 0 n n 1, I a, cmpV l, I q.1, I q.2]) (fun _ => H) (fun q => q.2 - q.1) (a + 1, b) (Bin.zero _ (by omega)) rfl rfl ?_
      rintro ⟨i, j⟩ hB
      simp only at hB ⊢
      obtain ⟨b1, b2, b3⟩ := hB.b
      repeat (first | (with_reducible first | refine Ju.go ?_ | (refine Hd.go ?_; intro K Q hK hQ; simp only [List.getD_cons_succ, List.getD_cons_zero, nod_imm, Try.underlying3, e_lss, e_cond, decide_eq_true_eq]; subst hK hQ) | refine Jr.go ?_) | refine sd ?_)
      by_cases hij : i < j
      · have d0 : (i : Int) < j := by omega
        have rij : R64 ((i : Int) + j) := by unfold R64; omega
        repeat (first | (with_reducible first | refine Ju.go ?_ | (refine Hd.go ?_; intro K Q hK hQ; simp only [d0, if_true, List.getD_cons_succ, List.getD_cons_zero, nod_imm, Try.underlying3, e_add, rij, true_and, Try.underlying184, e_cv64]; subst hK hQ) | refine Jr.go ?_) | refine sd ?_)
        obtain ⟨h, hh⟩ : ∃ h, h = (i + j) / 2 := ⟨_, rfl⟩
        have hf := hlf hh (by omega)
        have rh : R64 (h : Int) := by unfold R64; omega
        have rh1 : R64 ((h : Int) + 1) := by unfold R64; omega
        have l1 : (h : Int) < n := by omega
        have l2 : h < d.length := by omega
        have l3 : (a : Int) < n := by omega
        have l4 : a < d.length := by omega
        have v1 := hV h l2
        have v2 := hV a l4
        have hmo : ∀ c c', a + 1 ≤ c → c ≤ c' → c' < b → keyJ l (d.getD c' 0) < keyJ l (d.getD a 0) → keyJ l (d.getD c 0) < keyJ l (d.getD a 0) := fun c c' x1 x2 x3 x4 => by
          have := hR.le x1 x2 x3; omega
        rw [hf]
        repeat (first | (with_reducible first | refine Ju.go ?_ | (refine Hd.go ?_; intro K Q hK hQ; simp only [List.getD_cons_zero, nod_sl, nod_imm, e_ixS, l1, Int.toNat_natCast, Nat.mul_one, Nat.zero_add, true_and, nod_ptr, ldI_at hH, l2, List.getD_cons_succ, l3, l4, nod_fn, e_callG]; subst hK hQ) | refine Jr.go ?_) | refine sd ?_)
        refine call_ofD (c88 l _ _ _ hJ v1.1 v1.2 v2.1 v2.2) ?_
        by_cases hc : keyJ l (d.getD h 0) - keyJ l (d.getD a 0) < 0
        · repeat (first | (with_reducible first | refine Ju.go ?_ | (refine Hd.go ?_; intro K Q hK hQ; simp only [nod_imm, Try.underlying3, e_lss, hc, decide_true, List.getD_cons_zero, List.getD_cons_succ, e_cond, if_true, e_add, rh1, true_and]; subst hK hQ) | refine Jr.go ?_) | refine sd ?_)
          exact ⟨(h + 1, j), hB.right hmo (by omega) (by omega) (by omega), rfl, rfl, by show j - (h + 1) < j - i; omega⟩
        · repeat (first | (with_reducible first | refine Ju.go ?_ | (refine Hd.go ?_; intro K Q hK hQ; simp only [nod_imm, Try.underlying3, e_lss, hc, decide_false, List.getD_cons_zero, List.getD_cons_succ, e_cond, Bool.false_eq_true, if_false]; subst hK hQ) | refine Jr.go ?_) | refine sd ?_)
          exact ⟨(i, h), hB.left hmo (by omega) (by omega) (fun x => hc (by have : keyJ l (d.getD h 0) < keyJ l (d.getD a 0) := x; omega)), rfl, rfl, by show h - i < j - i; clear hf; omega⟩
      · have d0 : ¬ (i : Int) < j := by omega
        repeat (first | (with_reducible first | refine Ju.go ?_ | (refine Hd.go ?_; intro K Q hK hQ; simp only [d0, if_false]; subst hK hQ) | refine Jr.go ?_) | refine sd ?_)
        obtain rfl : i = j := by omega
        refine loop_of (fun q : Nat × List Int => a ≤ q.1 ∧ q.1 ≤ i - 1 ∧ Rot a (a + 1) (q.1 + 1) d q.2) (fun q => [.sl bk 0 n n 1, I i, I q.1]) (fun q => H.set bk (.cells (q.2.map I))) (fun q => i - q.1) (a, d) ⟨Nat.le_refl _, by show a ≤ i - 1; omega, Rot.none d (.inr rfl) (by omega) (Nat.le_refl _)⟩ rfl (set_id hH) ?_
        rintro ⟨k, e⟩ ⟨k1, k2, hO⟩
        simp only at k1 k2 hO ⊢
        have hel := hO.l
        have ri : R64 ((i : Int) - 1) := by unfold R64; omega
        repeat (first | (with_reducible first | refine Ju.go ?_ | (refine Hd.go ?_; intro K Q hK hQ; simp only [List.getD_cons_succ, List.getD_cons_zero, nod_imm, Try.underlying3, e_sub, ri, true_and, e_lss, e_cond, decide_eq_true_eq]; subst hK hQ) | refine Jr.go ?_) | refine sd ?_)
        by_cases hk : k < i - 1
        · have dk : (k : Int) < (i : Int) - 1 := by omega
          have rk : R64 ((k : Int) + 1) := by unfold R64; omega
          have ek : ((k : Int) + 1).toNat = k + 1 := by omega
          have g0 : 0 ≤ (k : Int) + 1 := by omega
          have g1 : (k : Int) + 1 < n := by omega
          have g2 : k + 1 < e.length := by omega
          have g3 : (k : Int) < n := by omega
          have g4 : k < e.length := by omega
          repeat (first | (with_reducible first | refine Ju.go ?_ | (refine Hd.go ?_; intro K Q hK hQ; simp only [dk, if_true, List.getD_cons_succ, List.getD_cons_zero, nod_imm, Try.underlying3, e_add, rk, true_and, nod_sl, e_ixS, g0, g1, ek, Nat.mul_one, Nat.zero_add, nod_ptr, ldI_at (hE _), g2, g3, Int.toNat_natCast, g4, stI_at (hE _), List.set_set, List.length_set]; subst hK hQ) | refine Jr.go ?_) | refine sd ?_)
          exact ⟨(k + 1, sw e k (k + 1)), ⟨by show a ≤ k + 1; omega, by show k + 1 ≤ i - 1; omega, hO.up k1 (by omega)⟩, rfl, rfl, by show i - (k + 1) < i - k; omega⟩
        · have dk : ¬ (k : Int) < (i : Int) - 1 := by omega
          repeat (first | (with_reducible first | refine Ju.go ?_ | (refine Hd.go ?_; intro K Q hK hQ; simp only [dk, if_false]; subst hK hQ) | refine Jr.go ?_) | refine sd ?_)
          obtain rfl : k = i - 1 := by omega
          rw [show i - 1 + 1 = i by omega] at hO
          refine endW ⟨e, ⟨(hO.rg (by omega) b1).mono (Nat.le_refl _) (by omega), one_left hR b1 b3 (fun h x1 x2 => ?_) (fun h x1 x2 => ?_) hO⟩, rfl⟩
          · exact .inl (hB.l h x1 x2)
          · exact (hP.dec (key := keyJ l) (i := a) (j := h) (Nat.le_refl _) (by omega) (by omega) x2).2 (hB.h h x1 x2)
    · have e1 : ¬ ((m : Int) - a = 1) := by omega
      repeat (first | (with_reducible first | refine Ju.go ?_ | (refine Hd.go ?_; intro K Q hK hQ; simp only [e1, if_false, nod_imm, Try.underlying3, e_sub, r2, true_and, e_eql, e_cond, decide_eq_true_eq]; subst hK hQ) | refine Jr.go ?_) | refine sd ?_)
      by_cases c2 : b = m + 1
      · subst c2
        have e2 : (((m + 1 : Nat) : Int) - m = 1) = True := eq_true (by omega)
        repeat (first | (with_reducible first | refine Ju.go ?_ | (refine Hd.go ?_; intro K Q hK hQ; simp only [e2, if_true, nod_imm]; subst hK hQ) | refine Jr.go ?_) | refine sd ?_)
        refine loop_of (fun q : Nat × Nat => Bin a m q.1 q.2 fun h => ¬ keyJ l (d.getD m 0) < keyJ l (d.getD h 0)) (fun q => [.sl bk 0 n n 1, I m, cmpV l, I q.1, I q.2]) (fun _ => H) (fun q => q.2 - q.1) (a, m) (Bin.zero _ (by omega)) rfl rfl ?_
        rintro ⟨i, j⟩ hB
        simp only at hB ⊢
        obtain ⟨b1, b2, b3⟩ := hB.b
        repeat (first | (with_reducible first | refine Ju.go ?_ | (refine Hd.go ?_; intro K Q hK hQ; simp only [List.getD_cons_succ, List.getD_cons_zero, nod_imm, Try.underlying3, e_lss, e_cond, decide_eq_true_eq]; subst hK hQ) | refine Jr.go ?_) | refine sd ?_)
        by_cases hij : i < j
        · have d0 : (i : Int) < j := by omega
          have rij : R64 ((i : Int) + j) := by unfold R64; omega
          obtain ⟨h, hh⟩ : ∃ h, h = (i + j) / 2 := ⟨_, rfl⟩
          have hf := hlf hh (by omega)
          have rh : R64 (h : Int) := by unfold R64; omega
          have rh1 : R64 ((h : Int) + 1) := by unfold R64; omega
          have l1 : (h : Int) < n := by omega
          have l2 : h < d.length := by omega
          have l3 : (m : Int) < n := by omega
          have l4 : m < d.length := by omega
          have v1 := hV h l2
          have v2 := hV m l4
          have hmo : ∀ c c', a ≤ c → c ≤ c' → c' < m → ¬ keyJ l (d.getD m 0) < keyJ l (d.getD c' 0) → ¬ keyJ l (d.getD m 0) < keyJ l (d.getD c 0) := fun c c' x1 x2 x3 x4 => by
            have := hL.le x1 x2 x3; omega
          repeat (first | (with_reducible first | refine Ju.go ?_ | (refine Hd.go ?_; intro K Q hK hQ; simp only [d0, if_true, List.getD_cons_succ, List.getD_cons_zero, nod_imm, Try.underlying3, e_add, rij, true_and, Try.underlying184, e_cv64, nod_sl, e_ixS, Int.toNat_natCast, Nat.mul_one, Nat.zero_add, nod_ptr]; subst hK hQ) | refine Jr.go ?_) | refine sd ?_)
          rw [hf]
          repeat (first | (with_reducible first | refine Ju.go ?_ | (refine Hd.go ?_; intro K Q hK hQ; simp only [ldI_at hH, l4, true_and, List.getD_cons_zero, nod_sl, nod_imm, e_ixS, l1, Int.toNat_natCast, Nat.mul_one, Nat.zero_add, nod_ptr, l2, List.getD_cons_succ, nod_fn, e_callG]; subst hK hQ) | refine Jr.go ?_) | refine sd ?_)
          refine call_ofD (c88 l _ _ _ hJ v2.1 v2.2 v1.1 v1.2) ?_
          by_cases hc : keyJ l (d.getD m 0) - keyJ l (d.getD h 0) < 0
          · repeat (first | (with_reducible first | refine Ju.go ?_ | (refine Hd.go ?_; intro K Q hK hQ; simp only [nod_imm, Try.underlying3, e_lss, hc, decide_true, e_not, Bool.not_true, List.getD_cons_zero, List.getD_cons_succ, e_cond, Bool.false_eq_true, if_false]; subst hK hQ) | refine Jr.go ?_) | refine sd ?_)
            exact ⟨(i, h), hB.left hmo (by omega) (by omega) (fun x => x (by show keyJ l (d.getD m 0) < keyJ l (d.getD h 0); omega)), rfl, rfl, by show h - i < j - i; clear hf; omega⟩
          · repeat (first | (with_reducible first | refine Ju.go ?_ | (refine Hd.go ?_; intro K Q hK hQ; simp only [nod_imm, Try.underlying3, e_lss, hc, decide_false, e_not, Bool.not_false, List.getD_cons_zero, List.getD_cons_succ, e_cond, if_true, e_add, rh1, true_and]; subst hK hQ) | refine Jr.go ?_) | refine sd ?_)
            exact ⟨(h + 1, j), hB.right hmo (by omega) (by omega) (by omega), rfl, rfl, by show j - (h + 1) < j - i; omega⟩
        · have d0 : ¬ (i : Int) < j := by omega
          repeat (first | (with_reducible first | refine Ju.go ?_ | (refine Hd.go ?_; intro K Q hK hQ; simp only [d0, if_false]; subst hK hQ) | refine Jr.go ?_) | refine sd ?_)
          obtain rfl : i = j := by omega
          refine loop_of (fun q : Nat × List Int => i ≤ q.1 ∧ q.1 ≤ m ∧ Rot q.1 m (m + 1) d q.2) (fun q => [.sl bk 0 n n 1, I i, I q.1]) (fun q => H.set bk (.cells (q.2.map I))) (fun q => q.1) (m, d) ⟨b3, Nat.le_refl _, Rot.none d (.inl rfl) (Nat.le_refl _) (by omega)⟩ rfl (set_id hH) ?_
          rintro ⟨k, e⟩ ⟨k1, k2, hO⟩
          simp only at k1 k2 hO ⊢
          have hel := hO.l
          repeat (first | (with_reducible first | refine Ju.go ?_ | (refine Hd.go ?_; intro K Q hK hQ; simp only [List.getD_cons_succ, List.getD_cons_zero, nod_imm, Try.underlying3, e_gtr, e_cond, decide_eq_true_eq]; subst hK hQ) | refine Jr.go ?_) | refine sd ?_)
          by_cases hk : i < k
          · have dk : (i : Int) < k := by omega
            have rk : R64 ((k : Int) - 1) := by unfold R64; omega
            have ek : ((k : Int) - 1).toNat = k - 1 := by omega
            have g0 : 0 ≤ (k : Int) - 1 := by omega
            have g1 : (k : Int) - 1 < n := by omega
            have g2 : k - 1 < e.length := by omega
            have g3 : (k : Int) < n := by omega
            have g4 : k < e.length := by omega
            have hO2 : Rot (k - 1) m (m + 1) d (sw e k (k - 1)) := by
              have := Rot.down (k := k - 1) (m := m) (d := d) (d' := e) (by rw [show k - 1 + 1 = k by omega]; exact hO) (by omega) (by omega)
              rwa [show k - 1 + 1 = k by omega] at this
            repeat (first | (with_reducible first | refine Ju.go ?_ | (refine Hd.go ?_; intro K Q hK hQ; simp only [dk, if_true, List.getD_cons_succ, List.getD_cons_zero, nod_imm, Try.underlying3, e_sub, rk, true_and, nod_sl, e_ixS, g0, g1, ek, Nat.mul_one, Nat.zero_add, nod_ptr, ldI_at (hE _), g2, g3, Int.toNat_natCast, g4, stI_at (hE _), List.set_set, List.length_set]; subst hK hQ) | refine Jr.go ?_) | refine sd ?_)
            exact ⟨(k - 1, sw e k (k - 1)), ⟨by show i ≤ k - 1; omega, by show k - 1 ≤ m; omega, hO2⟩, by show [_, _, I ((k - 1 : Nat) : Int)] = _; rw [show ((k - 1 : Nat) : Int) = (k : Int) - 1 by omega]; rfl, rfl, by show k - 1 < k; omega⟩
          · have dk : ¬ (i : Int) < k := by omega
            repeat (first | (with_reducible first | refine Ju.go ?_ | (refine Hd.go ?_; intro K Q hK hQ; simp only [dk, if_false]; subst hK hQ) | refine Jr.go ?_) | refine sd ?_)
            obtain rfl : k = i := by omega
            refine endW ⟨e, ⟨(hO.rg k2 (by omega)).mono b1 (Nat.le_refl _), one_right hL b1 b3 (fun h x1 x2 => ?_) (fun h x1 x2 => ?_) hO⟩, rfl⟩
            · exact (hP.dec (key := keyJ l) (i := h) (j := m) x1 (by omega) (Nat.le_refl _) (by omega)).2 (hB.l h x1 x2)
            · exact (hP.dec (key := keyJ l) (i := h) (j := m) (by omega) x2 (Nat.le_refl _) (by omega)).1 (Decidable.byContradiction fun c => hB.h h x1 x2 c)
      · have e2 : ¬ ((b : Int) - m = 1) := by omega
        have rab : R64 ((a : Int) + b) := by unfold R64; omega
        obtain ⟨mid, hmid⟩ : ∃ mid, mid = (a + b) / 2 := ⟨_, rfl⟩
        have hf := hlf hmid (by omega)
        have rmid : R64 (mid : Int) := by unfold R64; omega
        have rmm : R64 ((mid : Int) + m) := by unfold R64; omega
        repeat (first | (with_reducible first | refine Ju.go ?_ | (refine Hd.go ?_; intro K Q hK hQ; simp only [e2, if_false, nod_imm, Try.underlying3, e_add, rab, true_and, Try.underlying184, e_cv64, List.getD_cons_succ, List.getD_cons_zero, e_gtr, e_cond, decide_eq_true_eq]; subst hK hQ) | refine Jr.go ?_) | refine sd ?_)
        rw [hf]
        repeat (first | (with_reducible first | refine Ju.go ?_ | (refine Hd.go ?_; intro K Q hK hQ; simp only []; subst hK hQ) | refine Jr.go ?_) | refine sd ?_)
        generalize hRn : Rn _ = R
        have key : ∀ lo hi : Nat, CutP a m b mid lo hi → lo ≤ hi → R [.sl bk 0 n n 1, I a, I m, I b, cmpV l, I mid, I ((mid : Int) + m), I lo, I hi] H := by
          intro lo hi hC hlh
          subst hRn
          have hClh := hC.l
          have hChm := hC.h
          have rp : R64 ((mid : Int) + m - 1) := by unfold R64; omega
          repeat (first | (with_reducible first | refine Ju.go ?_ | (refine Hd.go ?_; intro K Q hK hQ; simp only [List.getD_cons_succ, List.getD_cons_zero, nod_imm, Try.underlying3, e_sub, rp, true_and]; subst hK hQ) | refine Jr.go ?_) | refine sd ?_)
          refine loop_of (fun q : Nat × Nat => Cut (keyJ l) (mid + m - 1) lo hi q.1 q.2 d) (fun q => [.sl bk 0 n n 1, I a, I m, I b, cmpV l, I mid, I ((mid : Int) + m), I q.1, I q.2, I ((mid : Int) + m - 1)]) (fun _ => H) (fun q => q.2 - q.1) (lo, hi) (Cut.zero _ _ _ hlh) rfl rfl ?_
          rintro ⟨s, r⟩ hB
          simp only at hB ⊢
          obtain ⟨b1, b2, b3⟩ := hB.b
          repeat (first | (with_reducible first | refine Ju.go ?_ | (refine Hd.go ?_; intro K Q hK hQ; simp only [List.getD_cons_succ, List.getD_cons_zero, nod_imm, Try.underlying3, e_lss, e_cond, decide_eq_true_eq]; subst hK hQ) | refine Jr.go ?_) | refine sd ?_)
          by_cases hsr : s < r
          · have d0 : (s : Int) < r := by omega
            have rij : R64 ((s : Int) + r) := by unfold R64; omega
            obtain ⟨c, hc⟩ : ∃ c, c = (s + r) / 2 := ⟨_, rfl⟩
            have hf2 := hlf hc (by omega)
            have hp1 := hC.p1 c (by omega) (by omega)
            have rh : R64 (c : Int) := by unfold R64; omega
            have rh1 : R64 ((c : Int) + 1) := by unfold R64; omega
            have rpc : R64 ((mid : Int) + m - 1 - c) := by unfold R64; omega
            have epc : ((mid : Int) + m - 1 - c).toNat = mid + m - 1 - c := by omega
            have l1 : (c : Int) < n := by clear hf2; omega
            have l2 : c < d.length := by clear hf2; omega
            have l3 : (mid : Int) + m - 1 - c < n := by clear hf2; omega
            have l4 : mid + m - 1 - c < d.length := by clear hf2; omega
            have l5 : 0 ≤ (mid : Int) + m - 1 - c := by clear hf2; omega
            have v1 := hV c l2
            have v2 := hV _ l4
            repeat (first | (with_reducible first | refine Ju.go ?_ | (refine Hd.go ?_; intro K Q hK hQ; simp only [d0, if_true, List.getD_cons_succ, List.getD_cons_zero, nod_imm, Try.underlying3, e_add, rij, true_and, Try.underlying184, e_cv64, e_sub, nod_sl, e_ixS, Nat.mul_one, Nat.zero_add, nod_ptr]; subst hK hQ) | refine Jr.go ?_) | refine sd ?_)
            rw [hf2]
            repeat (first | (with_reducible first | refine Ju.go ?_ | (refine Hd.go ?_; intro K Q hK hQ; simp only [epc, ldI_at hH, l4, true_and, List.getD_cons_zero, nod_sl, nod_imm, e_ixS, l1, Int.toNat_natCast, Nat.mul_one, Nat.zero_add, nod_ptr, l2, List.getD_cons_succ, nod_fn, e_callG]; subst hK hQ) | refine Jr.go ?_) | refine sd ?_)
            refine call_ofD (c88 l _ _ _ hJ v2.1 v2.2 v1.1 v1.2) ?_
            by_cases hk : keyJ l (d.getD (mid + m - 1 - c) 0) - keyJ l (d.getD c 0) < 0
            · repeat (first | (with_reducible first | refine Ju.go ?_ | (refine Hd.go ?_; intro K Q hK hQ; simp only [nod_imm, Try.underlying3, e_lss, hk, decide_true, e_not, Bool.not_true, List.getD_cons_zero, List.getD_cons_succ, e_cond, Bool.false_eq_true, if_false]; subst hK hQ) | refine Jr.go ?_) | refine sd ?_)
              exact ⟨(s, c), hB.left hC hL hR (c := c) (by omega) (by omega) (by omega), rfl, rfl, by show c - s < r - s; clear hf2; omega⟩
            · repeat (first | (with_reducible first | refine Ju.go ?_ | (refine Hd.go ?_; intro K Q hK hQ; simp only [nod_imm, Try.underlying3, e_lss, hk, decide_false, e_not, Bool.not_false, List.getD_cons_zero, List.getD_cons_succ, e_cond, if_true, e_add, rh1, true_and]; subst hK hQ) | refine Jr.go ?_) | refine sd ?_)
              exact ⟨(c + 1, r), hB.right hC hL hR (c := c) (by omega) (by omega) (by omega), rfl, rfl, by show r - (c + 1) < r - s; omega⟩
          · have d0 : ¬ (s : Int) < r := by omega
            obtain rfl : s = r := by omega
            have hEn := hB.end_ hC hL hR hP
            obtain ⟨o1, o2, o3, o4, o5, o6, o7⟩ := hEn.o
            obtain ⟨e, he⟩ : ∃ e, e = mid + m - s := ⟨_, rfl⟩
            have eE : (mid : Int) + m - s = e := by omega
            rw [← he] at hEn o3 o4 o5 o7
            repeat (first | (with_reducible first | refine Ju.go ?_ | (refine Hd.go ?_; intro K Q hK hQ; simp only [d0, if_false, List.getD_cons_succ, List.getD_cons_zero, nod_imm, Try.underlying3, e_sub, e_lss, e_gT, j_and', j_one, e_cond]; subst hK hQ) | refine Jr.go ?_) | refine sd ?_)
            rw [eE]
            generalize hRn2 : Rn _ = R2
            have key2 : ∀ d1, Sym (keyJ l) a s mid e b d d1 → R2 [.sl bk 0 n n 1, I a, I b, cmpV l, I mid, I s, I e] (H.set bk (.cells (d1.map I))) := by
              intro d1 hS1
              subst hRn2
              have hl1 := hS1.r.l
              have hV1 := hS1.r.val (by omega) (P := fun x => 0 ≤ x ∧ x < l.length) hV
              repeat (first | (with_reducible first | refine Ju.go ?_ | (refine Hd.go ?_; intro K Q hK hQ; simp only [List.getD_cons_succ, List.getD_cons_zero, nod_imm, Try.underlying3, e_lss, e_gT, j_and', j_one, e_cond]; subst hK hQ) | refine Jr.go ?_) | refine sd ?_)
              generalize hRn3 : Rn _ = R3
              have key3 : ∀ d2, Mg (keyJ l) a mid d1 d2 → R3 [.sl bk 0 n n 1, I b, cmpV l, I mid, I e] (H.set bk (.cells (d2.map I))) := by
                intro d2 hM1
                subst hRn3
                have hl2 := hM1.r.l
                have hV2 := hM1.r.val (by omega) (P := fun x => 0 ≤ x ∧ x < l.length) hV1
                by_cases hc : mid < e ∧ e < b
                · have d3 : (mid : Int) < e := by omega
                  have d4 : (e : Int) < b := by omega
                  obtain ⟨p1, p2, p3⟩ := hS1.in2 hM1 o7
                  repeat (first | (with_reducible first | refine Ju.go ?_ | (refine Hd.go ?_; intro K Q hK hQ; simp only [List.getD_cons_succ, List.getD_cons_zero, nod_imm, Try.underlying3, e_lss, d3, decide_true, d4, e_gT, cond_true, j_one, e_cond, if_true, nod_sl, nod_fn]; subst hK hQ) | refine Jr.go ?_) | refine sd ?_)
                  refine callE_of (ih mid e b d2 _ (by omega) (by omega) (hE _) hc.1 hc.2 hbn hV2 p1 p2 p3) ?_
                  rintro v H' ⟨d3, hM2, rfl⟩
                  repeat (first | (with_reducible first | refine Ju.go ?_ | (refine Hd.go ?_; intro K Q hK hQ; simp only []; subst hK hQ) | refine Jr.go ?_) | refine sd ?_)
                  exact endW ⟨d3, hS1.done (by omega) (by omega) hM1 hM2, by rw [List.set_set]⟩
                · have hM2 := hS1.no2 hM1 hc o7 o4
                  have d3 : (decide ((mid : Int) < e) && decide ((e : Int) < b)) = false := by
                    rw [Bool.and_eq_false_iff, decide_eq_false_iff_not, decide_eq_false_iff_not]; omega
                  repeat (first | (with_reducible first | refine Ju.go ?_ | (refine Hd.go ?_; intro K Q hK hQ; simp only [List.getD_cons_succ, List.getD_cons_zero, nod_imm, Try.underlying3, e_lss, e_gT, j_and', d3, j_one, e_cond, Bool.false_eq_true, if_false]; subst hK hQ) | refine Jr.go ?_) | refine sd ?_)
                  exact endW ⟨d2, hS1.done (by omega) (by omega) hM1 hM2, rfl⟩
              clear hRn3
              by_cases hc : a < s ∧ s < mid
              · have d3 : (a : Int) < s := by omega
                have d4 : (s : Int) < mid := by omega
                repeat (first | (with_reducible first | refine Ju.go ?_ | (refine Hd.go ?_; intro K Q hK hQ; simp only [d3, decide_true, d4, Bool.and_self, if_true, List.getD_cons_zero, nod_sl, List.getD_cons_succ, nod_imm, nod_fn]; subst hK hQ) | refine Jr.go ?_) | refine sd ?_)
                refine callE_of (ih a s mid d1 _ (by omega) (by omega) (hE _) hc.1 hc.2 (by omega) hV1 hS1.s1 hS1.s2 hS1.p1) ?_
                rintro v H' ⟨d2, hM1, rfl⟩
                have := key3 d2 hM1
                rw [List.set_set]
                exact this
              · have hM1 := hS1.no1 hc o1 o6
                have d3 : (decide ((a : Int) < s) && decide ((s : Int) < mid)) = false := by
                  rw [Bool.and_eq_false_iff, decide_eq_false_iff_not, decide_eq_false_iff_not]; omega
                repeat (first | (with_reducible first | refine Ju.go ?_ | (refine Hd.go ?_; intro K Q hK hQ; simp only [d3, Bool.false_eq_true, if_false]; subst hK hQ) | refine Jr.go ?_) | refine sd ?_)
                exact key3 d1 hM1
            clear hRn2
            by_cases hc : s < m ∧ m < e
            · have d3 : (s : Int) < m := by omega
              have d4 : (m : Int) < e := by omega
              repeat (first | (with_reducible first | refine Ju.go ?_ | (refine Hd.go ?_; intro K Q hK hQ; simp only [d3, decide_true, d4, Bool.and_self, if_true, List.getD_cons_zero, nod_sl, List.getD_cons_succ, nod_imm, nod_fn]; subst hK hQ) | refine Jr.go ?_) | refine sd ?_)
              refine callE_of (c116 bk n s m e _ d _ hn hH hc.1 hc.2 (by omega) h3) ?_
              rintro v H' ⟨d1, hO, rfl⟩
              exact key2 d1 (sym_of hL hR hP o1 o2 o3 o4 o5 hEn.A hEn.B hO)
            · have hO : Rot s m e d d := Rot.none d (by omega) o2 o3
              have hS1 := sym_of hL hR hP o1 o2 o3 o4 o5 hEn.A hEn.B hO
              have d3 : (decide ((s : Int) < m) && decide ((m : Int) < e)) = false := by
                rw [Bool.and_eq_false_iff, decide_eq_false_iff_not, decide_eq_false_iff_not]; omega
              have := key2 d hS1
              rw [set_id hH] at this
              repeat (first | (with_reducible first | refine Ju.go ?_ | (refine Hd.go ?_; intro K Q hK hQ; simp only [d3, Bool.false_eq_true, if_false]; subst hK hQ) | refine Jr.go ?_) | refine sd ?_)
              exact this
        by_cases hmm : mid < m
        · have d0 : (mid : Int) < m := by omega
          have e3 : (mid : Int) + m - b = (mid + m - b : Nat) := by omega
          have r3 : R64 ((mid : Int) + m - b) := by unfold R64; omega
          have hk := key _ _ (cutP2 ham hmb hmid hmm) (by omega)
          rw [← e3] at hk
          repeat (first | (with_reducible first | refine Ju.go ?_ | (refine Hd.go ?_; intro K Q hK hQ; simp only [d0, if_true, nod_imm, Try.underlying3, List.getD_cons_succ, List.getD_cons_zero, e_sub, r3, true_and]; subst hK hQ) | refine Jr.go ?_) | refine sd ?_)
          exact hk
        · have d0 : ¬ (mid : Int) < m := by omega
          have hk := key _ _ (cutP1 ham hmb hmid hmm) (by omega)
          repeat (first | (with_reducible first | refine Ju.go ?_ | (refine Hd.go ?_; intro K Q hK hQ; simp only [d0, if_false]; subst hK hQ) | refine Jr.go ?_) | refine sd ?_)
          exact hk
structure Bk (key : Int → Int) (n B : Nat) (e : List Int) : Prop where
 s : ∀ i j, i < j → j < n → i / B = j / B → ltK key (e.getD i 0) (e.getD j 0)
 p : ∀ i j, i < n → j < n → i / B < j / B → e.getD i 0 < e.getD j 0
structure Ins (key : Int → Int) (n a : Nat) (e : List Int) : Prop where
 s : ∀ i j, i < j → j < a → i / 20 = j / 20 → ltK key (e.getD i 0) (e.getD j 0)
 p : ∀ i j, i < n → j < n → i / 20 < j / 20 → e.getD i 0 < e.getD j 0
 t : ∀ i j, a ≤ i → i < j → j < n → e.getD i 0 < e.getD j 0
 m : ∃ k, a = 20 * k
theorem Ins.zero {key : Int → Int} {n : Nat} {d : List Int} (h : ∀ i j, i < j → j < n → d.getD i 0 < d.getD j 0) : Ins key n 0 d :=
 ⟨fun i j _ h => by omega, fun i j _ hj hd => h i j (by omega) hj, fun i j _ h1 h2 => h i j h1 h2, ⟨0, rfl⟩⟩
theorem Ins.sep {key : Int → Int} {n a b : Nat} {e e' : List Int} (h : Ins key n a e) (hab : a ≤ b) (hb : b ≤ a + 20) (hn : b ≤ n) (r : Rg a b e e') : ∀ i j, i < n → j < n → i / 20 < j / 20 → e'.getD i 0 < e'.getD j 0 := by
 obtain ⟨k, rfl⟩ := h.m
 have hv : ∀ i, i < n → ∃ i', i' < n ∧ i' / 20 = i / 20 ∧ e'.getD i 0 = e.getD i' 0 := fun i hi => by
  by_cases c : 20 * k ≤ i ∧ i < b
  ·obtain ⟨j, j1, j2, ej⟩ := r.m i c.1 c.2
   exact ⟨j, by omega, by omega, ej⟩
  ·exact ⟨i, hi, rfl, r.o i (by omega)⟩
 intro i j hi hj hd
 obtain ⟨i', a1, a2, a3⟩ := hv i hi
 obtain ⟨j', b1, b2, b3⟩ := hv j hj
 rw [a3, b3]
 exact h.p i' j' a1 b1 (by omega)
theorem Ins.step {key : Int → Int} {n a : Nat} {e e' : List Int} (h : Ins key n a e) (hn : a + 20 ≤ n) (m : Mg key a (a + 20) e e') : Ins key n (a + 20) e' := by
 have hp := h.sep (Nat.le_add_right a 20) (Nat.le_refl _) hn m.r
 obtain ⟨k, hk⟩ := h.m
 refine ⟨fun i j hij hj hd => ?_, hp, fun i j h1 h2 h3 => ?_, ⟨k + 1, by omega⟩⟩
 ·by_cases c : j < a
  ·rw [m.r.o i (by omega), m.r.o j (by omega)]; exact h.s i j hij c hd
  ·exact m.s i j (by omega) hij hj
 ·rw [m.r.o i (by omega), m.r.o j (by omega)]; exact h.t i j (by omega) h2 h3
theorem Ins.last {key : Int → Int} {n a : Nat} {e e' : List Int} (h : Ins key n a e) (han : a ≤ n) (hn : n ≤ a + 20) (m : Mg key a n e e') : Bk key n 20 e' := by
 have hp := h.sep han hn (Nat.le_refl _) m.r
 obtain ⟨k, hk⟩ := h.m
 refine ⟨fun i j hij hj hd => ?_, hp⟩
 by_cases c : j < a
 ·rw [m.r.o i (by omega), m.r.o j (by omega)]; exact h.s i j hij c hd
 ·exact m.s i j (by omega) hij hj
structure Ph (key : Int → Int) (n B a : Nat) (e : List Int) : Prop where
 s2 : ∀ i j, i < j → j < a → i / (2 * B) = j / (2 * B) → ltK key (e.getD i 0) (e.getD j 0)
 s1 : ∀ i j, a ≤ i → i < j → j < n → i / B = j / B → ltK key (e.getD i 0) (e.getD j 0)
 p2 : ∀ i j, i < n → j < n → i / (2 * B) < j / (2 * B) → e.getD i 0 < e.getD j 0
 p1 : ∀ i j, a ≤ i → i < n → j < n → i / B < j / B → e.getD i 0 < e.getD j 0
 m : ∃ k, a = 2 * B * k
theorem Ph.zero {key : Int → Int} {n B : Nat} (hB : B = 20 ∨ B = 40) {e : List Int} (h : Bk key n B e) : Ph key n B 0 e := by
 refine ⟨fun i j _ h => by omega, fun i j _ h1 h2 h3 => h.s i j h1 h2 h3, fun i j h1 h2 h3 => h.p i j h1 h2 ?_, fun i j _ h1 h2 h3 => h.p i j h1 h2 h3, ⟨0, rfl⟩⟩
 rcases hB with rfl | rfl <;> omega
theorem Ph.pre {key : Int → Int} {n B a b : Nat} (hB : B = 20 ∨ B = 40) {e : List Int} (h : Ph key n B a e) (h1 : a + B ≤ b) (h2 : b ≤ a + 2 * B) (h3 : b ≤ n) : Srd key a (a + B) e ∧ Srd key (a + B) b e ∧ Sep a (a + B) b e := by
 obtain ⟨k, hk⟩ := h.m
 refine ⟨fun i j i1 i2 i3 => h.s1 i j i1 i2 (by omega) ?_, fun i j i1 i2 i3 => h.s1 i j (by omega) i2 (by omega) ?_, fun i j i1 i2 i3 i4 => h.p1 i j i1 (by omega) (by omega) ?_⟩ <;> rcases hB with rfl | rfl <;> omega
theorem Ph.sep {key : Int → Int} {n B a b : Nat} (hB : B = 20 ∨ B = 40) {e e' : List Int} (h : Ph key n B a e) (hab : a ≤ b) (h2 : b ≤ a + 2 * B) (h3 : b ≤ n) (r : Rg a b e e') : ∀ i j, i < n → j < n → i / (2 * B) < j / (2 * B) → e'.getD i 0 < e'.getD j 0 := by
 obtain ⟨k, hk⟩ := h.m
 have hv : ∀ i, i < n → ∃ i', i' < n ∧ i' / (2 * B) = i / (2 * B) ∧ e'.getD i 0 = e.getD i' 0 := fun i hi => by
  by_cases c : a ≤ i ∧ i < b
  ·obtain ⟨j, j1, j2, ej⟩ := r.m i c.1 c.2
   refine ⟨j, by omega, ?_, ej⟩
   rcases hB with rfl | rfl <;> omega
  ·exact ⟨i, hi, rfl, r.o i (by omega)⟩
 intro i j hi hj hd
 obtain ⟨i', a1, a2, a3⟩ := hv i hi
 obtain ⟨j', b1, b2, b3⟩ := hv j hj
 rw [a3, b3]
 exact h.p2 i' j' a1 b1 (by omega)
theorem Ph.step {key : Int → Int} {n B a : Nat} (hB : B = 20 ∨ B = 40) {e e' : List Int} (h : Ph key n B a e) (hn : a + 2 * B ≤ n) (m : Mg key a (a + 2 * B) e e') : Ph key n B (a + 2 * B) e' := by
 have hp := h.sep hB (Nat.le_add_right _ _) (Nat.le_refl _) hn m.r
 obtain ⟨k, hk⟩ := h.m
 refine ⟨fun i j hij hj hd => ?_, fun i j i1 i2 i3 hd => ?_, hp, fun i j i1 i2 i3 hd => ?_, ⟨k + 1, by rw [hk, Nat.mul_add, Nat.mul_one]⟩⟩
 ·by_cases c : j < a
  ·rw [m.r.o i (by omega), m.r.o j (by omega)]; exact h.s2 i j hij c hd
  ·refine m.s i j ?_ hij hj
   rcases hB with rfl | rfl <;> omega
 ·rw [m.r.o i (by omega), m.r.o j (by omega)]; exact h.s1 i j (by omega) i2 i3 hd
 ·have : a + 2 * B ≤ j := by rcases hB with rfl | rfl <;> omega
  rw [m.r.o i (by omega), m.r.o j (by omega)]; exact h.p1 i j (by omega) i2 i3 hd
theorem Ph.last1 {key : Int → Int} {n B a : Nat} (hB : B = 20 ∨ B = 40) {e e' : List Int} (h : Ph key n B a e) (h1 : a ≤ n) (hn : n ≤ a + 2 * B) (m : Mg key a n e e') : Bk key n (2 * B) e' := by
 have hp := h.sep hB h1 hn (Nat.le_refl _) m.r
 obtain ⟨k, hk⟩ := h.m
 refine ⟨fun i j hij hj hd => ?_, hp⟩
 by_cases c : j < a
 ·rw [m.r.o i (by omega), m.r.o j (by omega)]; exact h.s2 i j hij c hd
 ·refine m.s i j ?_ hij hj
  rcases hB with rfl | rfl <;> omega
theorem Ph.last2 {key : Int → Int} {n B a : Nat} (hB : B = 20 ∨ B = 40) {e : List Int} (h : Ph key n B a e) (hn : n ≤ a + B) : Bk key n (2 * B) e := by
 obtain ⟨k, hk⟩ := h.m
 refine ⟨fun i j hij hj hd => ?_, h.p2⟩
 by_cases c : j < a
 ·exact h.s2 i j hij c hd
 ·refine h.s1 i j ?_ hij hj ?_ <;> rcases hB with rfl | rfl <;> omega
theorem Bk.done {key : Int → Int} {n B : Nat} {e : List Int} (h : Bk key n B e) (hn : n ≤ B) : Srd key 0 n e := fun i j _ h1 h2 => h.s i j h1 h2 (by rw [Nat.div_eq_of_lt (by omega), Nat.div_eq_of_lt (by omega)])
theorem c103 (l : List Jb) (hJ : JEnv l) (bk n : Nat) (d : List Int) (H : Hp) (hn : d.length = n) (hH : H[bk]? = some (.cells (d.map I))) (h3 : n ≤ 60)
    (hV : ∀ i, i < d.length → 0 ≤ d.getD i 0 ∧ d.getD i 0 < l.length) (hI : ∀ i j, i < j → j < n → d.getD i 0 < d.getD j 0) :
    RetE Try.prog 103 [.sl bk 0 n n 1, I n, cmpV l] H (fun _ H' => ∃ d', Mg (keyJ l) 0 n d d' ∧ H' = H.set bk (.cells (d'.map I))) := by
  have hbl := get_lt hH
  have hE : ∀ e : List Int, (H.set bk (.cells (e.map I)))[bk]? = some (.cells (e.map I)) := fun e => List.getElem?_set_self hbl
  have hVr : ∀ e, Rg 0 n d e → ∀ i, i < e.length → 0 ≤ e.getD i 0 ∧ e.getD i 0 < l.length := fun e hr => hr.val (by omega) (P := fun x => 0 ≤ x ∧ x < l.length) hV
  refine mkE103 _ _ _ ?_
  simp only [vc103, real]
  repeat (first | (with_reducible first | refine Ju.go ?_ | (refine Hd.go ?_; intro K Q hK hQ; simp only []; subst hK hQ) | refine Jr.go ?_) | refine sd ?_)
  refine loop_of (fun q : Nat × List Int => q.1 ≤ n ∧ Ins (keyJ l) n q.1 q.2 ∧ Rg 0 n d q.2) (fun q => [.sl bk 0 n n 1, I n, cmpV l, I 20, I q.1, I ((q.1 : Int) + 20)]) (fun q => H.set bk (.cells (q.2.map I))) (fun q => n - q.1) (0, d) ⟨Nat.zero_le _, Ins.zero hI, Rg.refl _ _ _⟩ rfl (set_id hH) ?_
  rintro ⟨a, e⟩ ⟨ha, hS, hr⟩
  simp only at ha hS hr ⊢
  have hel := hr.l
  have hVe := hVr e hr
  repeat (first | (with_reducible first | refine Ju.go ?_ | (refine Hd.go ?_; intro K Q hK hQ; simp only [List.getD_cons_succ, List.getD_cons_zero, nod_imm, Try.underlying3, e_leq, e_cond, decide_eq_true_eq]; subst hK hQ) | refine Jr.go ?_) | refine sd ?_)
  by_cases hlt : a + 20 ≤ n
  · have d0 : (a : Int) + 20 ≤ n := by omega
    have ea : (a : Int) + 20 = (a + 20 : Nat) := by omega
    have r1 : R64 ((a : Int) + 20 + 20) := by unfold R64; omega
    repeat (first | (with_reducible first | refine Ju.go ?_ | (refine Hd.go ?_; intro K Q hK hQ; simp only [d0, if_true, List.getD_cons_zero, nod_sl, List.getD_cons_succ, nod_imm, nod_fn]; subst hK hQ) | refine Jr.go ?_) | refine sd ?_)
    rw [ea]
    refine callE_of (c112 l bk n a (a + 20) e _ hJ (by omega) (hE _) (by omega) hlt (by omega) hVe (fun i j x1 x2 x3 => hS.t i j x1 x2 (by omega))) ?_
    rintro v H' ⟨f, hM, rfl⟩
    rw [← ea]
    repeat (first | (with_reducible first | refine Ju.go ?_ | (refine Hd.go ?_; intro K Q hK hQ; simp only [List.getD_cons_succ, List.getD_cons_zero, nod_imm, Try.underlying3, e_add, r1, true_and]; subst hK hQ) | refine Jr.go ?_) | refine sd ?_)
    exact ⟨(a + 20, f), ⟨hlt, hS.step hlt hM, hr.trans (hM.r.mono (Nat.zero_le _) hlt)⟩, by show [_, _, _, _, I ((a + 20 : Nat) : Int), I (((a + 20 : Nat) : Int) + 20)] = _; rw [← ea]; rfl, by rw [List.set_set], by show n - (a + 20) < n - a; omega⟩
  · have d0 : ¬ (a : Int) + 20 ≤ n := by omega
    repeat (first | (with_reducible first | refine Ju.go ?_ | (refine Hd.go ?_; intro K Q hK hQ; simp only [d0, if_false, List.getD_cons_zero, List.getD_cons_succ, nod_sl, nod_imm, nod_fn]; subst hK hQ) | refine Jr.go ?_) | refine sd ?_)
    refine callE_of (c112 l bk n a n e _ hJ (by omega) (hE _) ha (Nat.le_refl _) (by omega) hVe (fun i j x1 x2 x3 => hS.t i j x1 x2 (by omega))) ?_
    rintro v H' ⟨f, hM, rfl⟩
    repeat (first | (with_reducible first | refine Ju.go ?_ | (refine Hd.go ?_; intro K Q hK hQ; simp only []; subst hK hQ) | refine Jr.go ?_) | refine sd ?_)
    have hB0 := hS.last ha (by omega) hM
    have hr0 := hr.trans (hM.r.mono (Nat.zero_le _) (Nat.le_refl _))
    refine loop_of (fun q : Nat × List Int => (q.1 = 20 ∨ q.1 = 40 ∨ q.1 = 80) ∧ Bk (keyJ l) n q.1 q.2 ∧ Rg 0 n d q.2) (fun q => [.sl bk 0 n n 1, I n, cmpV l, I q.1]) (fun q => H.set bk (.cells (q.2.map I))) (fun q => 100 - q.1) (20, f) ⟨.inl rfl, hB0, hr0⟩ rfl (by rw [List.set_set]) ?_
    clear hS hM hB0 hr0 hVe hel hr
    rintro ⟨B, e⟩ ⟨hB, hK, hr⟩
    simp only at hB hK hr ⊢
    repeat (first | (with_reducible first | refine Ju.go ?_ | (refine Hd.go ?_; intro K Q hK hQ; simp only [List.getD_cons_succ, List.getD_cons_zero, nod_imm, Try.underlying3, e_lss, e_cond, decide_eq_true_eq]; subst hK hQ) | refine Jr.go ?_) | refine sd ?_)
    by_cases hlt : B < n
    · have hB2 : B = 20 ∨ B = 40 := by omega
      have d0 : (B : Int) < n := by omega
      have r1 : R64 (2 * (B : Int)) := by unfold R64; omega
      have r2 : R64 ((B : Int) * 2) := by unfold R64; omega
      have hfin : ∀ e, Bk (keyJ l) n (2 * B) e → Rg 0 n d e → ∃ s' : Nat × List Int, ((s'.1 = 20 ∨ s'.1 = 40 ∨ s'.1 = 80) ∧ Bk (keyJ l) n s'.1 s'.2 ∧ Rg 0 n d s'.2) ∧ [V.sl bk 0 n n 1, I n, cmpV l, I s'.1] = [V.sl bk 0 n n 1, I n, cmpV l, I ((B : Int) * 2)] ∧ H.set bk (.cells (s'.2.map I)) = H.set bk (.cells (e.map I)) ∧ 100 - s'.1 < 100 - B := fun e h1 h2 =>
        ⟨(2 * B, e), ⟨by show 2 * B = 20 ∨ 2 * B = 40 ∨ 2 * B = 80; omega, h1, h2⟩, by show [_, _, _, I ((2 * B : Nat) : Int)] = _; rw [show ((2 * B : Nat) : Int) = (B : Int) * 2 by omega], rfl, by show 100 - 2 * B < 100 - B; omega⟩
      repeat (first | (with_reducible first | refine Ju.go ?_ | (refine Hd.go ?_; intro K Q hK hQ; simp only [d0, if_true, List.getD_cons_succ, List.getD_cons_zero, nod_imm, Try.underlying3, e_mul, r1, true_and]; subst hK hQ) | refine Jr.go ?_) | refine sd ?_)
      refine loop_of (fun q : Nat × List Int => q.1 ≤ n ∧ Ph (keyJ l) n B q.1 q.2 ∧ Rg 0 n d q.2) (fun q => [.sl bk 0 n n 1, I n, cmpV l, I B, I q.1, I ((q.1 : Int) + 2 * B)]) (fun q => H.set bk (.cells (q.2.map I))) (fun q => n - q.1) (0, e) ⟨Nat.zero_le _, Ph.zero hB2 hK, hr⟩ (by show [_, _, _, _, _, I (((0 : Nat) : Int) + 2 * B)] = _; rw [show ((0 : Nat) : Int) + 2 * (B : Int) = 2 * B by omega]; rfl) rfl ?_
      clear hK hr
      rintro ⟨a, e⟩ ⟨ha, hP, hr⟩
      simp only at ha hP hr ⊢
      have hel := hr.l
      have hVe := hVr e hr
      have r3 : R64 ((a : Int) + B) := by unfold R64; omega
      have e1 : (a : Int) + B = (a + B : Nat) := by omega
      have e2 : (a : Int) + 2 * B = (a + 2 * B : Nat) := by omega
      repeat (first | (with_reducible first | refine Ju.go ?_ | (refine Hd.go ?_; intro K Q hK hQ; simp only [List.getD_cons_succ, List.getD_cons_zero, nod_imm, Try.underlying3, e_leq, e_cond, decide_eq_true_eq]; subst hK hQ) | refine Jr.go ?_) | refine sd ?_)
      by_cases hl2 : a + 2 * B ≤ n
      · have d1 : (a : Int) + 2 * B ≤ n := by omega
        have r4 : R64 ((a : Int) + 2 * B + 2 * B) := by unfold R64; omega
        obtain ⟨p1, p2, p3⟩ := hP.pre hB2 (b := a + 2 * B) (by omega) (Nat.le_refl _) hl2
        repeat (first | (with_reducible first | refine Ju.go ?_ | (refine Hd.go ?_; intro K Q hK hQ; simp only [d1, if_true, List.getD_cons_succ, List.getD_cons_zero, nod_imm, Try.underlying3, e_add, r3, true_and, nod_sl, nod_fn]; subst hK hQ) | refine Jr.go ?_) | refine sd ?_)
        rw [e1, e2]
        refine callE_of (c113 l hJ bk n (by omega) _ a (a + B) (a + 2 * B) e _ (Nat.le_refl _) (by omega) (hE _) (by omega) (by omega) hl2 hVe p1 p2 p3) ?_
        rintro v H' ⟨f, hM, rfl⟩
        rw [← e2]
        repeat (first | (with_reducible first | refine Ju.go ?_ | (refine Hd.go ?_; intro K Q hK hQ; simp only [List.getD_cons_zero, List.getD_cons_succ, nod_imm, Try.underlying3, e_mul, r1, true_and, e_add, r4]; subst hK hQ) | refine Jr.go ?_) | refine sd ?_)
        exact ⟨(a + 2 * B, f), ⟨hl2, hP.step hB2 hl2 hM, hr.trans (hM.r.mono (Nat.zero_le _) hl2)⟩, by show [_, _, _, _, I ((a + 2 * B : Nat) : Int), I (((a + 2 * B : Nat) : Int) + 2 * B)] = _; rw [← e2]; rfl, by rw [List.set_set], by show n - (a + 2 * B) < n - a; omega⟩
      · have d1 : ¬ (a : Int) + 2 * B ≤ n := by omega
        repeat (first | (with_reducible first | refine Ju.go ?_ | (refine Hd.go ?_; intro K Q hK hQ; simp only [d1, if_false, List.getD_cons_succ, List.getD_cons_zero, nod_imm, Try.underlying3, e_add, r3, true_and, e_lss, e_cond, decide_eq_true_eq]; subst hK hQ) | refine Jr.go ?_) | refine sd ?_)
        by_cases hl3 : a + B < n
        · have d2 : (a : Int) + B < n := by omega
          obtain ⟨p1, p2, p3⟩ := hP.pre hB2 (b := n) (by omega) (by omega) (Nat.le_refl _)
          repeat (first | (with_reducible first | refine Ju.go ?_ | (refine Hd.go ?_; intro K Q hK hQ; simp only [d2, if_true, decide_true, List.getD_cons_zero, nod_sl, List.getD_cons_succ, nod_imm, nod_fn]; subst hK hQ) | refine Jr.go ?_) | refine sd ?_)
          rw [e1]
          refine callE_of (c113 l hJ bk n (by omega) _ a (a + B) n e _ (Nat.le_refl _) (by omega) (hE _) (by omega) hl3 (Nat.le_refl _) hVe p1 p2 p3) ?_
          rintro v H' ⟨f, hM, rfl⟩
          repeat (first | (with_reducible first | refine Ju.go ?_ | (refine Hd.go ?_; intro K Q hK hQ; simp only [List.getD_cons_zero, List.getD_cons_succ, nod_imm, Try.underlying3, e_mul, r2, true_and]; subst hK hQ) | refine Jr.go ?_) | refine sd ?_)
          rw [List.set_set]
          exact hfin f (hP.last1 hB2 ha (by omega) hM) (hr.trans (hM.r.mono (Nat.zero_le _) (Nat.le_refl _)))
        · have d2 : ¬ (a : Int) + B < n := by omega
          repeat (first | (with_reducible first | refine Ju.go ?_ | (refine Hd.go ?_; intro K Q hK hQ; simp only [d2, if_false, decide_false, List.getD_cons_zero, List.getD_cons_succ, nod_imm, Try.underlying3, e_mul, r2, true_and]; subst hK hQ) | refine Jr.go ?_) | refine sd ?_)
          exact hfin e (hP.last2 hB2 (by omega)) hr
    · have d0 : ¬ (B : Int) < n := by omega
      repeat (first | (with_reducible first | refine Ju.go ?_ | (refine Hd.go ?_; intro K Q hK hQ; simp only [d0, if_false]; subst hK hQ) | refine Jr.go ?_) | refine sd ?_)
      exact endW ⟨e, ⟨hr, hK.done (by omega)⟩, rfl⟩
theorem c87 (l : List Jb) (hJ : JEnv l) (bk n : Nat) (d : List Int) (H : Hp) (hn : d.length = n) (hH : H[bk]? = some (.cells (d.map I))) (h3 : n ≤ 60)
    (hV : ∀ i, i < d.length → 0 ≤ d.getD i 0 ∧ d.getD i 0 < l.length) (hI : ∀ i j, i < j → j < n → d.getD i 0 < d.getD j 0) :
    RetE Try.prog 87 [.sl bk 0 n n 1, cmpV l] H (fun _ H' => ∃ d', Mg (keyJ l) 0 n d d' ∧ H' = H.set bk (.cells (d'.map I))) := by
  refine mkE87 _ _ ?_
  simp only [vc87, real]
  repeat (first | (with_reducible first | refine Ju.go ?_ | (refine Hd.go ?_; intro K Q hK hQ; simp only [nod_sl, e_lenS, nod_imm, nod_fn]; subst hK hQ) | refine Jr.go ?_) | refine sd ?_)
  refine callE_of (c103 l hJ bk n d H hn hH h3 hV hI) ?_
  rintro v H' h
  repeat (first | (with_reducible first | refine Ju.go ?_ | (refine Hd.go ?_; intro K Q hK hQ; simp only []; subst hK hQ) | refine Jr.go ?_) | refine sd ?_)
  exact endW h
theorem bs_jb (j : Jb) (z : V) (K : V → Prop) : aBS 2 1 z [(0, .agg [I j.e, I j.d])] K = K (.arr [.agg [I j.e, I j.d]] .full) := by
 have h : okE 2 (.agg [I j.e, I j.d]) = True := eq_true ⟨rfl, fun c hc => by
  simp only [V.cl, List.mem_cons, List.not_mem_nil, or_false] at hc
  rcases hc with rfl | rfl <;> rfl⟩
 simp [aBS, aPs, setP, h]
theorem srtJ_snoc (l : List Jb) (o : List Int) {i : Nat} (h : i < o.length) : srtJ l (o.take (i + 1)) = srtJ l (o.take i) ++ [l.getD (o.getD i 0).toNat default] := by
 unfold srtJ
 rw [take_snocA o 0 h, List.map_append]; rfl
theorem end2T {H H' : Hp} {a b a' b' : V} (d1 : a'.Nd) (d2 : b'.Nd) (h1 : Fz H.length H' a.nod a') (h2 : Fz H.length H' b.nod b') (ht : H'.take H.length = H) : retF (.tup [a', b']) H [a, b] H' := by
 refine ⟨.tup _ _ rfl (fun c hc => ?_) (fun i c c' h1' h2' => ?_), ht⟩
 ·simp at hc; rcases hc with rfl | rfl <;> assumption
 ·match i with
  | 0 => simp at h1' h2'; subst h1' h2'; exact h1
  | 1 => simp at h1' h2'; subst h1' h2'; exact h2
  | i + 2 => simp at h2'
theorem take_hp {H G : Hp} (hl : H.length ≤ G.length) (h : ∀ c, c < H.length → G[c]? = H[c]?) : G.take H.length = H := by
 refine List.ext_getElem? fun j => ?_
 rw [List.getElem?_take]
 split
 ·exact h j (by omega)
 ·rw [List.getElem?_eq_none (by omega)]
def rngI (n : Nat) : List Int := (List.range n).map Int.ofNat
theorem rngI_len (n : Nat) : (rngI n).length = n := by unfold rngI; simp
theorem rngI_get {n i : Nat} (h : i < n) : (rngI n).getD i 0 = i := by
 unfold rngI
 rw [List.getD_eq_getElem?_getD, List.getElem?_map, List.getElem?_range h]; rfl
theorem rngI_s (n : Nat) : rngI (n + 1) = rngI n ++ [(n : Int)] := by
 unfold rngI
 rw [List.range_succ, List.map_append]; rfl
theorem Mg.ord {l : List Jb} {n : Nat} {d' : List Int} (h : Mg (keyJ l) 0 n (rngI n) d') : Ord l n d' := by
 have hl := h.r.l
 rw [rngI_len] at hl
 refine ⟨List.pairwise_iff_getElem.2 fun i j hi hj hij => ?_, List.perm_iff_count.2 fun x => h.r.p x⟩
 have := h.s i j (Nat.zero_le _) hij (by omega)
 rwa [List.getD_eq_getElem?_getD, List.getD_eq_getElem?_getD, List.getElem?_eq_getElem hi, List.getElem?_eq_getElem hj] at this
theorem c112z (l : List Jb) (H : Hp) : RetE Try.prog 112 [.arr [] .full, I 0, I 0, cmpV l] H (fun _ H' => H' = H) := by
 refine mkE112 _ _ _ _ ?_
 simp only [vc112, real]
 repeat (first | (with_reducible first | refine Ju.go ?_ | (refine Hd.go ?_; intro K Q hK hQ; simp only [nod_imm, Try.underlying3, e_add]; subst hK hQ) | refine Jr.go ?_) | refine sd ?_)
 refine loop_of (fun _ : Nat => True) (fun _ => [.arr [] .full, I 0, I 0, cmpV l, I 1]) (fun _ => H) (fun _ => 0) 0 trivial rfl rfl ?_
 rintro i -
 have d0 : ¬ (1 : Int) < 0 := by decide
 repeat (first | (with_reducible first | refine Ju.go ?_ | (refine Hd.go ?_; intro K Q hK hQ; simp only [List.getD_cons_succ, List.getD_cons_zero, nod_imm, Try.underlying3, e_lss, d0, decide_false, e_cond, Bool.false_eq_true, if_false]; subst hK hQ) | refine Jr.go ?_) | refine sd ?_)
 exact endW rfl
theorem c103z (l : List Jb) (H : Hp) : RetE Try.prog 103 [.arr [] .full, I 0, cmpV l] H (fun _ H' => H' = H) := by
 refine mkE103 _ _ _ ?_
 simp only [vc103, real]
 repeat (first | (with_reducible first | refine Ju.go ?_ | (refine Hd.go ?_; intro K Q hK hQ; simp only []; subst hK hQ) | refine Jr.go ?_) | refine sd ?_)
 refine loop_of (fun _ : Nat => True) (fun _ => [.arr [] .full, I 0, cmpV l, I 20, I 0, I 20]) (fun _ => H) (fun _ => 0) 0 trivial rfl rfl ?_
 rintro i -
 have d0 : ¬ (20 : Int) ≤ 0 := by decide
 repeat (first | (with_reducible first | refine Ju.go ?_ | (refine Hd.go ?_; intro K Q hK hQ; simp only [List.getD_cons_succ, List.getD_cons_zero, nod_imm, Try.underlying3, e_leq, d0, decide_false, e_cond, Bool.false_eq_true, if_false, nod_arr, nd_full, nod_fn]; subst hK hQ) | refine Jr.go ?_) | refine sd ?_)
 refine callE_of (c112z l H) ?_
 rintro v H' rfl
 repeat (first | (with_reducible first | refine Ju.go ?_ | (refine Hd.go ?_; intro K Q hK hQ; simp only []; subst hK hQ) | refine Jr.go ?_) | refine sd ?_)
 refine loop_of (fun _ : Nat => True) (fun _ => [.arr [] .full, I 0, cmpV l, I 20]) (fun _ => H') (fun _ => 0) 0 trivial rfl rfl ?_
 rintro i -
 have d0 : ¬ (20 : Int) < 0 := by decide
 repeat (first | (with_reducible first | refine Ju.go ?_ | (refine Hd.go ?_; intro K Q hK hQ; simp only [List.getD_cons_succ, List.getD_cons_zero, nod_imm, Try.underlying3, e_lss, d0, decide_false, e_cond, Bool.false_eq_true, if_false]; subst hK hQ) | refine Jr.go ?_) | refine sd ?_)
 exact endW rfl
theorem c87z (l : List Jb) (H : Hp) : RetE Try.prog 87 [.arr [] .full, cmpV l] H (fun _ H' => H' = H) := by
 refine mkE87 _ _ ?_
 simp only [vc87, real]
 repeat (first | (with_reducible first | refine Ju.go ?_ | (refine Hd.go ?_; intro K Q hK hQ; simp only [nod_arr, nd_full, e_lenA, List.length_nil, Int.cast_ofNat_Int, nod_imm, nod_fn]; subst hK hQ) | refine Jr.go ?_) | refine sd ?_)
 refine callE_of (c103z l H) ?_
 rintro v H' rfl
 repeat (first | (with_reducible first | refine Ju.go ?_ | (refine Hd.go ?_; intro K Q hK hQ; simp only []; subst hK hQ) | refine Jr.go ?_) | refine sd ?_)
 exact endW rfl
theorem okJs_srt {pw : Int} {l : List Jb} (ok : okJs pw l = true) {o : List Int} (hO : Ord l l.length o) : okJs pw (srtJ l o) = true := by
 unfold okJs at ok ⊢
 simp only [Bool.and_eq_true, decide_eq_true_eq, Bool.not_eq_true'] at ok ⊢
 refine ⟨⟨ok.1.1, by rw [srtJ_len, hO.len]; exact ok.1.2⟩, List.any_eq_false.2 fun j hj => ?_⟩
 unfold srtJ at hj
 obtain ⟨x, hx, rfl⟩ := List.mem_map.1 hj
 have := hO.mem hx
 exact List.any_eq_false.1 ok.2 _ (getD_memA l default (by omega))
def ordV (pw : Int) (l : List Jb) : V := if okJs pw l = true then (if inT pw (srtJ l (ordL l)) = true then .tup [ints (ordL l) .no, I 0] else .tup [ints [] .no, I 5]) else .tup [ints [] .no, I 2]
theorem ordV_nd (pw : Int) (l : List Jb) : (ordV pw l).Nd := by
 unfold ordV
 split
 ·split <;> rfl
 ·rfl
theorem c45 (pw : Int) (l : List Jb) (H : Hp) (hl : l.length ≤ 9223372036854775807) (h60 : okJs pw l = true → l.length ≤ 60) : Ret Try.prog 45 [I pw, .arr (l.map jbV) .no] H (ordV pw l) H := by
 have hnd := ordV_nd pw l
 refine mk45 _ _ hnd (Nat.le_refl _) (.inl rfl) ?_
 simp only [vc45, real]
 unfold ordV
 repeat (first | (with_reducible first | refine Ju.go ?_ | (refine Hd.go ?_; intro K Q hK hQ; simp only [nod_arr, nd_no, e_bxI, okE_arr, true_and, nod_cptr, e_ldcV, nod_imm]; subst hK hQ) | refine Jr.go ?_) | refine sd ?_)
 refine call_of (c84 pw l H hl) ?_
 cases ok : okJs pw l
 ·rw [if_neg (by decide)]
  repeat (first | (with_reducible first | refine Ju.go ?_ | (refine Hd.go ?_; intro K Q hK hQ; simp only [nod_imm, e_not, Bool.not_false, e_cond, if_true]; subst hK hQ) | refine Jr.go ?_) | refine sd ?_)
  exact end2 rfl rfl end_nil (fzI _)
 ·rw [if_pos rfl]
  have h6 := h60 ok
  obtain ⟨hp1, hp2, hp3⟩ := okJs.pw ok
  have hJ : JEnv l := ⟨by omega, fun j hj => (hp3 j hj).2⟩
  have hO := ordL_ok l
  have hol := hO.len
  have okS := okJs_srt ok hO
  repeat (first | (with_reducible first | refine Ju.go ?_ | (refine Hd.go ?_; intro K Q hK hQ; simp only [nod_imm, e_not, Bool.not_true, e_cond, Bool.false_eq_true, if_false, nod_cptr, e_ldcV, nod_arr, nd_no, e_lenA, List.length_map]; subst hK hQ) | refine Jr.go ?_) | refine sd ?_)
  refine loop_of (fun q : Nat × Nat × Hp => q.1 ≤ l.length ∧ (q.1 ≠ 0 → q.2.2[q.2.1]? = some (.cells ((rngI q.1).map I)) ∧ H.length ≤ q.2.1) ∧ (∀ c, c < H.length → q.2.2[c]? = H[c]?) ∧ H.length ≤ q.2.2.length) (fun q => [I pw, .cptr (.arr (l.map jbV) .no), blV 1 q.2.1 q.1, I l.length, I q.1]) (·.2.2) (fun q => l.length - q.1) (0, 0, H) ⟨Nat.zero_le _, fun h => absurd rfl h, fun _ _ => rfl, Nat.le_refl _⟩ rfl rfl ?_
  rintro ⟨i, b, G⟩ ⟨hi, hb, hlo, hln⟩
  simp only at hi hb hlo hln ⊢
  have hrl := rngI_len i
  repeat (first | (with_reducible first | refine Ju.go ?_ | (refine Hd.go ?_; intro K Q hK hQ; simp only [List.getD_cons_succ, List.getD_cons_zero, nod_imm, Try.underlying3, e_lss, e_cond, decide_eq_true_eq]; subst hK hQ) | refine Jr.go ?_) | refine sd ?_)
  by_cases hlt : i < l.length
  ·have d0 : (i : Int) < l.length := by omega
   have r1 : R64 ((i : Int) + 1) := by unfold R64; omega
   repeat (first | (with_reducible first | refine Ju.go ?_ | (refine Hd.go ?_; intro K Q hK hQ; simp only [d0, if_true, List.getD_cons_succ, List.getD_cons_zero, nod_imm, bs1, nod_ints, nd_full]; subst hK hQ) | refine Jr.go ?_) | refine sd ?_)
   refine app_bl (cs := (rngI i).map I) (fun h => by subst h; rfl) (fun h => (hb h).1) (by rw [List.length_map, hrl, Nat.mul_one]) (fun c hc => by
    obtain ⟨x, -, rfl⟩ := List.mem_map.1 hc; rfl) (fun e he => by
    obtain ⟨x, -, rfl⟩ := List.mem_map.1 he
    exact ⟨rfl, fun c hc => by rw [List.mem_singleton.1 hc]; rfl⟩) (by rw [List.length_map, List.length_singleton]; omega) (fun _ h => by cases h) fun _ => ?_
   have el : (List.map I [(i : Int)]).length = 1 := rfl
   have ec : List.map I (rngI i) ++ List.flatMap V.cl (List.map I [(i : Int)]) = (rngI (i + 1)).map I := by rw [rngI_s, List.map_append]; rfl
   rw [el, ec]
   repeat (first | (with_reducible first | refine Ju.go ?_ | (refine Hd.go ?_; intro K Q hK hQ; simp only [List.getD_cons_succ, List.getD_cons_zero, nod_imm, Try.underlying3, e_add, r1, true_and]; subst hK hQ) | refine Jr.go ?_) | refine sd ?_)
   refine ⟨(i + 1, G.length, _), ⟨hlt, fun _ => ⟨?_, hln⟩, fun c hc => ?_, ?_⟩, rfl, rfl, by show l.length - (i + 1) < l.length - i; omega⟩
   ·show (killB G b i ++ _)[G.length]? = _
    have := tail0 (killB G b i) [Blk.cells ((rngI (i + 1)).map I)]
    rwa [killB_len] at this
   ·show (killB G b i ++ _)[c]? = _
    rw [List.getElem?_append_left (by rw [killB_len]; omega), killB_ne G b i (fun h => by have := (hb h).2; omega)]
    exact hlo c hc
   ·show _ ≤ (killB G b i ++ _).length
    rw [List.length_append, killB_len]; omega
  ·have d0 : ¬ (i : Int) < l.length := by omega
   obtain rfl : i = l.length := by omega
   repeat (first | (with_reducible first | refine Ju.go ?_ | (refine Hd.go ?_; intro K Q hK hQ; simp only [d0, if_false, List.getD_cons_succ, List.getD_cons_zero, nod_nod, nod_cptr]; subst hK hQ) | refine Jr.go ?_) | refine sd ?_)
   rw [blV_nod]
   generalize hR : Rn _ = R
   have key : ∀ G' : Hp, (l.length ≠ 0 → G'[b]? = some (.cells ((ordL l).map I)) ∧ H.length ≤ b) → (∀ c, c < H.length → G'[c]? = H[c]?) → H.length ≤ G'.length → R [I pw, .cptr (.arr (l.map jbV) .no), blV 1 b l.length] G' := by
    intro G' hb' hlo' hln'
    subst hR
    clear hb hlo hln hi hlt
    have htk := take_hp hln' hlo'
    repeat (first | (with_reducible first | refine Ju.go ?_ | (refine Hd.go ?_; intro K Q hK hQ; simp only [List.getD_cons_succ, List.getD_cons_zero, nod_nod]; subst hK hQ) | refine Jr.go ?_) | refine sd ?_)
    rw [blV_nod, blV_len]
    refine loop_of (fun i : Nat => i ≤ l.length) (fun i => [I pw, .cptr (.arr (l.map jbV) .no), blV 1 b l.length, .arr ((srtJ l ((ordL l).take i)).map jbV) (oF i), blV 1 b l.length, I l.length, I i]) (fun _ => G') (fun i => l.length - i) 0 (Nat.zero_le _) (by
     show [_, _, _, _, _, _, _] = [_, _, _, _, (blV 1 b l.length).nod, _, _]
     rw [blV_nod, List.take_zero]; rfl) rfl ?_
    intro i hi
    repeat (first | (with_reducible first | refine Ju.go ?_ | (refine Hd.go ?_; intro K Q hK hQ; simp only [List.getD_cons_succ, List.getD_cons_zero, nod_imm, Try.underlying3, e_lss, e_cond, decide_eq_true_eq]; subst hK hQ) | refine Jr.go ?_) | refine sd ?_)
    by_cases hlt : i < l.length
    ·have h0 : l.length ≠ 0 := by omega
     have d1 : (i : Int) < l.length := by omega
     have d2 : i < (ordL l).length := by omega
     have d3 : i < ((ordL l).map I).length := by rw [List.length_map]; exact d2
     obtain ⟨x0, x1⟩ := hO.mem (hMem (ordL l) d2)
     have r1 : R64 ((i : Int) + 1) := by unfold R64; omega
     have es := srtJ_snoc l (ordL l) d2
     have hl0 : (srtJ l ((ordL l).take i)).length ≤ 1000000 := by rw [srtJ_len, List.length_take]; omega
     obtain ⟨hbb, -⟩ := hb' h0
     rw [blV_ne 1 b h0]
     repeat (first | (with_reducible first | refine Ju.go ?_ | (refine Hd.go ?_; intro K Q hK hQ; simp only [d1, if_true, List.getD_cons_succ, List.getD_cons_zero, nod_sl, nod_imm, e_ixS, Int.toNat_natCast, Nat.mul_one, Nat.zero_add, true_and, nod_ptr, ldI_at hbb, d2, nod_cptr, e_ldcV, nod_arr, nd_no, ix_jb, x0, x1, e_ldcA, lv_cons, List.length_nil, Nat.reduceAdd, nod_agg, List.map_cons, nodL_imm, List.map_nil]; subst hK hQ) | refine Jr.go ?_) | refine sd ?_)
     refine Eq.mpr (bs_jb _ _ _) ?_
     refine Eq.mpr (e_appE jbV (fun _ => rfl) 16 (srtJ l ((ordL l).take i)) [l.getD ((ordL l).getD i 0).toNat default] (oF i) .full) ⟨oF_ap i, by simp only [List.length_singleton]; omega, ?_⟩
     rw [← es]
     repeat (first | (with_reducible first | refine Ju.go ?_ | (refine Hd.go ?_; intro K Q hK hQ; simp only [List.getD_cons_succ, List.getD_cons_zero, nod_imm, Try.underlying3, e_add, r1, true_and]; subst hK hQ) | refine Jr.go ?_) | refine sd ?_)
     exact ⟨i + 1, hlt, rfl, rfl, by omega⟩
    ·have d1 : ¬ (i : Int) < l.length := by omega
     obtain rfl : i = l.length := by omega
     have et : (ordL l).take l.length = ordL l := List.take_of_length_le (by omega)
     repeat (first | (with_reducible first | refine Ju.go ?_ | (refine Hd.go ?_; intro K Q hK hQ; simp only [d1, if_false, List.getD_cons_zero, List.getD_cons_succ, nod_imm, nod_arr]; subst hK hQ) | refine Jr.go ?_) | refine sd ?_)
     rw [et]
     have c := c86 pw (srtJ l (ordL l)) G' okS
     have hw : ∀ (xs : List V) (n : Nat), Wk (.arr xs (oF n).nd.nd) (.arr xs .no) := fun xs n => by
      cases n
      ·exact .full xs
      ·exact .refl _
     refine call_wk c (.cons (.refl _) (.cons ?_ .nil)) ?_
     ·exact hw _ _
     ·cases hT : inT pw (srtJ l (ordL l))
      ·repeat (first | (with_reducible first | refine Ju.go ?_ | (refine Hd.go ?_; intro K Q hK hQ; simp only [nod_imm, e_not, Bool.not_false, e_cond, if_true]; subst hK hQ) | refine Jr.go ?_) | refine sd ?_)
       exact end2T rfl rfl end_nil (fzI _) htk
      ·repeat (first | (with_reducible first | refine Ju.go ?_ | (refine Hd.go ?_; intro K Q hK hQ; simp only [nod_imm, e_not, Bool.not_true, e_cond, Bool.false_eq_true, if_false]; subst hK hQ) | refine Jr.go ?_) | refine sd ?_)
       refine end2T rfl rfl ?_ (fzI _) htk
       show Fz H.length G' (blV 1 b l.length).nod.nod (ints (ordL l) .no)
       rw [blV_nod, blV_nod]
       by_cases h0 : l.length = 0
       ·have e1 : blV 1 b l.length = .arr [] .full := if_pos h0
        have e2 : ordL l = [] := List.length_eq_zero_iff.1 (by omega)
        rw [e1, e2]
        exact end_nil
       ·obtain ⟨hbb, hbl⟩ := hb' h0
        rw [blV_ne 1 b h0]
        refine .sl b 0 l.length l.length 1 1 _ ((ordL l).map I) .no hbl hbb (by rw [List.length_map]; exact hol) (by decide) (fun x hx => by
         obtain ⟨y, -, rfl⟩ := List.mem_map.1 hx; exact ⟨rfl, rfl⟩) (fun h => by cases h) (by rw [List.length_map]; omega) fun j c c' h1 h2 => ?_
        rw [flat_I] at h2
        rw [Nat.zero_add, h2] at h1
        cases h1
        rw [List.getElem?_map] at h2
        cases hq : (ordL l)[j]? with
        | none => rw [hq] at h2; cases h2
        | some y => rw [hq] at h2; cases h2; exact fzI _
   clear hR
   by_cases h0 : l.length = 0
   ·have : blV 1 b l.length = .arr [] .full := if_pos h0
    rw [this]
    rw [this] at key
    refine callE_of (c87z l G) ?_
    rintro v H' rfl
    exact key _ (fun h => absurd h0 h) hlo hln
   ·have eb := blV_ne 1 b h0
    rw [eb]
    rw [eb] at key
    obtain ⟨hbb, hbl⟩ := hb h0
    refine callE_of (c87 l hJ b l.length (rngI l.length) G hrl hbb h6 (fun i hi => by rw [rngI_get (by omega)]; omega) (fun i j h1 h2 => by rw [rngI_get (by omega), rngI_get h2]; omega)) ?_
    rintro v H' ⟨d', hM, rfl⟩
    obtain rfl : d' = ordL l := hM.ord.eq hO
    exact key _ (fun _ => ⟨List.getElem?_set_self (get_lt hbb), hbl⟩) (fun c hc => by rw [get_ne (by omega)]; exact hlo c hc) (by rw [List.length_set]; exact hln)
end Go.Proofs.Ytlnjhnemmemloaa
