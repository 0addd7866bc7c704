/- The machinery of the proof, part 4: an abstract machine over list values, proved sound against the model, and the contracts of the functions that the law reaches. No condition. -/
import Derived.Test.YtlnjhnemmemloaaP3
import Derived.Test.YtlnjhnemmemloaaProg
set_option linter.unusedVariables false
set_option maxRecDepth 20000
set_option maxHeartbeats 4000000
namespace Go.Proofs.Ytlnjhnemmemloaa
open Go Go.Ab Go.Proofs
theorem hm : Try.prog.follows .mixedOrders = true := by kernel_rfl
def an16 : An := { imm := [2, 3], jn := [(2, [2, 3, 4, 13])], lp := [], loud := [], ord := [] }
def vc16 (C : Cb) (a0 a1 : V) (H : Hp) (R : List V → Hp → Prop) : Prop :=
 C.aBx true 6 a0.nod H fun v1 H2 =>
 C.aBx true 2 a1.nod H2 fun v3 H4 =>
 C.aBx false 6 (V.agg [(I 0), (I 0), (V.arr [] .full), (V.arr [] .full), (V.arr [] .full), (I 0)]) H4 fun v5 H6 =>
 Jn (fun l7 H8 =>
 aCond (l7.getD 3 .junk).nod (
 C.aBd [(I 0), (I 0), (V.arr [] .full), (V.arr [] .full), (V.arr [] .full), (I 0)] [] fun v10 =>
 C.aSt 6 (l7.getD 2 .junk).nod v10 H8 fun v11 H12 =>
 C.aRes 6 true (l7.getD 2 .junk) H12 fun v13 =>
 R [v13, (I 2)] H12) (
 C.aLd 6 true false (l7.getD 0 .junk).nod H8 fun v14 H15 =>
 C.aLd 2 true false (l7.getD 1 .junk).nod H15 fun v16 H17 =>
 C.callE 54 [v14.nod, v16.nod] H17 fun v18 H19 =>
 C.aSt 6 (l7.getD 2 .junk).nod v18 H19 fun v20 H21 =>
 C.aRes 6 true (l7.getD 2 .junk) H21 fun v22 =>
 R [v22, (I 0)] H21))
 (fun R9 =>
 C.aLd 6 true false v1.nod H6 fun v23 H24 =>
 C.callE 52 [v23.nod] H24 fun v25 H26 =>
 C.aUn .not v25.nod fun v27 =>
 Jv (fun v28 H29 =>
 R9 [v1, v3, v5, v28] H29)
 (fun R30 =>
 aG v27.nod false (
 C.aLd 2 true false v3.nod H26 fun v31 H32 =>
 C.callE 53 [v31.nod] H32 fun v33 H34 =>
 C.aUn .not v33.nod fun v35 =>
 R30 v35.nod H34) (
 R30 (B true) H26)))
theorem wf16 : (Nat.ble 2 Try.f16.ntmps && wfC an16 Try.f16.ntmps (Try.f16.body.getD .skip)) = true := by kernel_rfl
theorem tie16 (C : Cb) (a0 a1 : V) (H : Hp) (R : List V → Hp → Prop) : wpG Try.prog C an16 (Try.f16.body.getD .skip) (argF [a0, a1]) H (retG Try.prog C Try.f16 R) (fun _ _ _ => False) (retG Try.prog C Try.f16 R) = vc16 C a0 a1 H R := by kernel_rfl
theorem mk16 (a0 a1 : V) {H : Hp} {v : V} {H1 : Hp} (hd : v.Nd) (hn : H.length ≤ H1.length) (hb : H1 = H ∨ ∀ (b : Nat) (blk : Blk), H1[b]? = some blk → H[b]? = some blk ∨ BelB H1.length blk) (h : vc16 (real Try.prog) a0 a1 H (retF v H1)) : Ret Try.prog 16 [a0, a1] H v H1 :=
 ret_mk (an := an16) hm Try.call16 Try.func16 rfl wf16 hd hn hb (Eq.mpr (tie16 (real Try.prog) a0 a1 H (retF v H1)) h)
def an24 : An := { imm := [], jn := [(7, [0, 1, 5, 25])], lp := [(4, [0, 1, 5])], loud := [], ord := [] }
def vc24 (C : Cb) (a0 a1 : V) (H : Hp) (R : List V → Hp → Prop) : Prop :=
 C.aLen a0.nod.nod fun v1 =>
 C.aLen a1.nod.nod fun v2 =>
 C.aBin (Try.prog.underlying 3) .neq v1.nod v2.nod fun v3 =>
 aCond v3.nod (
 R [(B false)] H) (
 LoopA (fun l4 H5 K6 =>
 C.aLen (l4.getD 0 .junk).nod.nod fun v7 =>
 C.aBin (Try.prog.underlying 3) .lss (l4.getD 2 .junk).nod.nod v7.nod fun v8 =>
 aCond v8.nod (
 Jn (fun l9 H10 =>
 aCond (l9.getD 3 .junk).nod (
 R [(B false)] H10) (
 C.aBin (Try.prog.underlying 3) .add (l9.getD 2 .junk).nod.nod (I 1) fun v12 =>
 K6 [(l9.getD 0 .junk), (l9.getD 1 .junk), v12] H10))
 (fun R11 =>
 C.aIx 1 (l4.getD 0 .junk).nod.nod (l4.getD 2 .junk).nod.nod fun v13 =>
 C.aLd 1 false false v13.nod H5 fun v14 H15 =>
 C.aIx 1 (l4.getD 1 .junk).nod.nod (l4.getD 2 .junk).nod.nod fun v16 =>
 C.aLd 1 false false v16.nod H15 fun v17 H18 =>
 C.aBin (Try.prog.underlying 3) .neq v14.nod v17.nod fun v19 =>
 R11 [(l4.getD 0 .junk), (l4.getD 1 .junk), (l4.getD 2 .junk), v19] H18)) (
 R [(B true)] H5))
 [a0, a1, (I 0)] H)
theorem wf24 : (Nat.ble 2 Try.f24.ntmps && wfC an24 Try.f24.ntmps (Try.f24.body.getD .skip)) = true := by kernel_rfl
theorem tie24 (C : Cb) (a0 a1 : V) (H : Hp) (R : List V → Hp → Prop) : wpG Try.prog C an24 (Try.f24.body.getD .skip) (argF [a0, a1]) H (retG Try.prog C Try.f24 R) (fun _ _ _ => False) (retG Try.prog C Try.f24 R) = vc24 C a0 a1 H R := by kernel_rfl
theorem mk24 (a0 a1 : V) {H : Hp} {v : V} {H1 : Hp} (hd : v.Nd) (hn : H.length ≤ H1.length) (hb : H1 = H ∨ ∀ (b : Nat) (blk : Blk), H1[b]? = some blk → H[b]? = some blk ∨ BelB H1.length blk) (h : vc24 (real Try.prog) a0 a1 H (retF v H1)) : Ret Try.prog 24 [a0, a1] H v H1 :=
 ret_mk (an := an24) hm Try.call24 Try.func24 rfl wf24 hd hn hb (Eq.mpr (tie24 (real Try.prog) a0 a1 H (retF v H1)) h)
def an26 : An := { imm := [], jn := [], lp := [], loud := [], ord := [] }
def vc26 (C : Cb) (H : Hp) (R : List V → Hp → Prop) : Prop :=
 C.aBd [(B false), (V.arr [] .full)] [(0, 1, (B true))] fun v1 =>
 C.aBx false 2 v1.nod H fun v2 H3 =>
 R [v2] H3
theorem wf26 : (Nat.ble 0 Try.f26.ntmps && wfC an26 Try.f26.ntmps (Try.f26.body.getD .skip)) = true := by kernel_rfl
theorem tie26 (C : Cb) (H : Hp) (R : List V → Hp → Prop) : wpG Try.prog C an26 (Try.f26.body.getD .skip) (argF []) H (retG Try.prog C Try.f26 R) (fun _ _ _ => False) (retG Try.prog C Try.f26 R) = vc26 C H R := by kernel_rfl
theorem mkE26 {H : Hp} {Q : V → Hp → Prop} (h : vc26 (real Try.prog) H (retW Q)) : RetE Try.prog 26 [] H Q :=
 retE_mk (an := an26) hm Try.call26 Try.func26 rfl wf26 (Eq.mpr (tie26 (real Try.prog) H (retW Q)) h)
def an27 : An := { imm := [3], jn := [(4, [0, 3, 10]), (8, [0])], lp := [], loud := [55], ord := [] }
def vc27 (C : Cb) (a0 a1 : V) (H : Hp) (R : List V → Hp → Prop) : Prop :=
 C.aBx true 5 a1.nod H fun v1 H2 =>
 C.callE 68 [a0.nod.nod] H2 fun v3 H4 =>
 C.aUn .not v3.nod fun v5 =>
 aCond v5.nod (
 R [(I 0), (I 1)] H4) (
 Jn (fun l6 H7 =>
 aCond (l6.getD 2 .junk).nod (
 R [(I 0), (I 2)] H7) (
 C.aNC (l6.getD 0 .junk).nod.nod fun v9 =>
 C.aFA 1 1 false v9.nod fun v10 =>
 C.aLd 1 false false v10.nod H7 fun v11 H12 =>
 C.aLen v11.nod fun v13 =>
 C.aBin (Try.prog.underlying 3) .geq v13.nod (I 500) fun v14 =>
 aCond v14.nod (
 R [(I 0), (I 4)] H12) (
 Jn (fun l15 H16 =>
 C.aNC (l15.getD 0 .junk).nod.nod fun v18 =>
 C.aFA 1 1 false v18.nod fun v19 =>
 C.aLd 1 false false v19.nod H16 fun v20 H21 =>
 C.aLen v20.nod fun v22 =>
 C.aBin (Try.prog.underlying 3) .sub v22.nod (I 1) fun v23 =>
 R [v23, (I 0)] H21)
 (fun R17 =>
 C.aNC (l6.getD 0 .junk).nod.nod fun v24 =>
 C.aFA 1 1 false v24.nod fun v25 =>
 C.aLd 1 false true v25.nod H12 fun v26 H27 =>
 C.aLd 5 true false (l6.getD 1 .junk).nod H27 fun v28 H29 =>
 C.aBd [(I 0), (I 0), (I 0), (I 0), (I 0), (B false), (I 0)] [(0, 5, v28.nod)] fun v30 =>
 C.aBS 7 1 (V.agg [(I 0), (I 0), (I 0), (I 0), (I 0), (B false), (I 0)]) [(0, v30.nod)] fun v31 =>
 C.aAppS 7 56 v26 v31.nod H29 fun v32 H33 =>
 C.aNC (l6.getD 0 .junk).nod.nod fun v34 =>
 C.aFA 1 1 false v34.nod fun v35 =>
 C.aSt 1 v35.nod v32 H33 fun v36 H37 =>
 R17 [(l6.getD 0 .junk)] H37))))
 (fun R8 =>
 C.aFA 0 1 false v1.nod fun v38 =>
 C.aLd 1 false false v38.nod H4 fun v39 H40 =>
 C.callE 61 [v39.nod, (I 1), (I 100)] H40 fun v41 H42 =>
 C.aUn .not v41.nod fun v43 =>
 Jv (fun v44 H45 =>
 Jv (fun v53 H54 =>
 Jv (fun v65 H66 =>
 Jv (fun v72 H73 =>
 R8 [a0, v1, v72] H73)
 (fun R74 =>
 aG v65.nod false (
 C.aFA 4 1 false v1.nod fun v75 =>
 C.aLd 1 false false v75.nod H66 fun v76 H77 =>
 C.callE 61 [v76.nod, (I 0), (I 1099511627776)] H77 fun v78 H79 =>
 C.aUn .not v78.nod fun v80 =>
 R74 v80.nod H79) (
 R74 (B true) H66)))
 (fun R67 =>
 aG v53.nod false (
 C.aFA 3 1 false v1.nod fun v68 =>
 C.aLd 1 false false v68.nod H54 fun v69 H70 =>
 C.aBin (Try.prog.underlying 3) .gtr v69.nod (I 1099511627776) fun v71 =>
 R67 v71.nod H70) (
 R67 (B true) H54)))
 (fun R55 =>
 aG v44.nod false (
 C.aFA 2 1 false v1.nod fun v56 =>
 C.aLd 1 false false v56.nod H45 fun v57 H58 =>
 C.aFA 3 1 false v1.nod fun v59 =>
 C.aLd 1 false false v59.nod H58 fun v60 H61 =>
 C.callE 61 [v57.nod, (I 0), v60.nod] H61 fun v62 H63 =>
 C.aUn .not v62.nod fun v64 =>
 R55 v64.nod H63) (
 R55 (B true) H45)))
 (fun R46 =>
 aG v43.nod false (
 C.aFA 1 1 false v1.nod fun v47 =>
 C.aLd 1 false false v47.nod H42 fun v48 H49 =>
 C.callE 61 [v48.nod, (I 0), (I 100)] H49 fun v50 H51 =>
 C.aUn .not v50.nod fun v52 =>
 R46 v52.nod H51) (
 R46 (B true) H42))))
theorem wf27 : (Nat.ble 2 Try.f27.ntmps && wfC an27 Try.f27.ntmps (Try.f27.body.getD .skip)) = true := by kernel_rfl
theorem tie27 (C : Cb) (a0 a1 : V) (H : Hp) (R : List V → Hp → Prop) : wpG Try.prog C an27 (Try.f27.body.getD .skip) (argF [a0, a1]) H (retG Try.prog C Try.f27 R) (fun _ _ _ => False) (retG Try.prog C Try.f27 R) = vc27 C a0 a1 H R := by kernel_rfl
theorem mkE27 (a0 a1 : V) {H : Hp} {Q : V → Hp → Prop} (h : vc27 (real Try.prog) a0 a1 H (retW Q)) : RetE Try.prog 27 [a0, a1] H Q :=
 retE_mk (an := an27) hm Try.call27 Try.func27 rfl wf27 (Eq.mpr (tie27 (real Try.prog) a0 a1 H (retW Q)) h)
def an30 : An := { imm := [], jn := [(4, [0, 1, 2, 3, 4, 17]), (6, [0, 3, 12]), (9, [12])], lp := [], loud := [], ord := [] }
def vc30 (C : Cb) (a0 a1 a2 a3 a4 : V) (H : Hp) (R : List V → Hp → Prop) : Prop :=
 C.callE 68 [a0.nod.nod] H fun v1 H2 =>
 C.aUn .not v1.nod fun v3 =>
 aCond v3.nod (
 R [(I 0), (I 1)] H2) (
 Jn (fun l4 H5 =>
 aCond (l4.getD 5 .junk).nod (
 R [(I 0), (I 2)] H5) (
 Jn (fun l7 H8 =>
 C.aBin (Try.prog.underlying 3) .lss (l7.getD 2 .junk).nod.nod (I 0) fun v10 =>
 aCond v10.nod (
 R [(I 0), (I 8)] H8) (
 Jn (fun l11 H12 =>
 R [(l11.getD 0 .junk).nod, (I 0)] H12)
 (fun R13 =>
 C.aNC (l7.getD 0 .junk).nod.nod fun v14 =>
 C.aFA 1 1 false v14.nod fun v15 =>
 C.aLd 1 false false v15.nod H8 fun v16 H17 =>
 C.aIx 7 v16.nod (l7.getD 2 .junk).nod.nod fun v18 =>
 C.aFA 6 1 false v18.nod fun v19 =>
 C.aLd 1 false false v19.nod H17 fun v20 H21 =>
 C.aBin (Try.prog.underlying 3) .add v20.nod (l7.getD 1 .junk).nod.nod fun v22 =>
 C.aIx 7 v16.nod (l7.getD 2 .junk).nod.nod fun v23 =>
 C.aFA 6 1 false v23.nod fun v24 =>
 C.aSt 1 v24.nod v22 H21 fun v25 H26 =>
 R13 [(l7.getD 2 .junk)] H26)))
 (fun R9 =>
 C.callE 70 [(l4.getD 0 .junk).nod.nod, (l4.getD 1 .junk).nod.nod, (l4.getD 2 .junk).nod.nod, (l4.getD 3 .junk).nod.nod, (l4.getD 4 .junk).nod.nod] H5 fun v27 H28 =>
 R9 [(l4.getD 0 .junk), (l4.getD 3 .junk), v27] H28)))
 (fun R6 =>
 C.callE 69 [a1.nod.nod, a2.nod.nod, a3.nod.nod, a4.nod.nod] H2 fun v29 H30 =>
 C.aUn .not v29.nod fun v31 =>
 R6 [a0, a1, a2, a3, a4, v31] H30))
theorem wf30 : (Nat.ble 5 Try.f30.ntmps && wfC an30 Try.f30.ntmps (Try.f30.body.getD .skip)) = true := by kernel_rfl
theorem tie30 (C : Cb) (a0 a1 a2 a3 a4 : V) (H : Hp) (R : List V → Hp → Prop) : wpG Try.prog C an30 (Try.f30.body.getD .skip) (argF [a0, a1, a2, a3, a4]) H (retG Try.prog C Try.f30 R) (fun _ _ _ => False) (retG Try.prog C Try.f30 R) = vc30 C a0 a1 a2 a3 a4 H R := by kernel_rfl
theorem mkE30 (a0 a1 a2 a3 a4 : V) {H : Hp} {Q : V → Hp → Prop} (h : vc30 (real Try.prog) a0 a1 a2 a3 a4 H (retW Q)) : RetE Try.prog 30 [a0, a1, a2, a3, a4] H Q :=
 retE_mk (an := an30) hm Try.call30 Try.func30 rfl wf30 (Eq.mpr (tie30 (real Try.prog) a0 a1 a2 a3 a4 H (retW Q)) h)
def an39 : An := { imm := [], jn := [], lp := [], loud := [], ord := [] }
def vc39 (C : Cb) (a0 : V) (H : Hp) (R : List V → Hp → Prop) : Prop :=
 C.callE 68 [a0.nod.nod] H fun v1 H2 =>
 C.aUn .not v1.nod fun v3 =>
 aCond v3.nod (
 R [(V.imm (.pointer none)), (I 1)] H2) (
 C.callE 81 [] H2 fun v4 H5 =>
 C.aBd [(I 0), (I 0)] [(0, 1, (I 1)), (1, 1, (I 1))] fun v6 =>
 C.aBd [(V.imm .nilIface), (V.imm (.pointer none)), (I 0), (I 0), (I 0), (I 0), (I 0), (V.imm (.pointer none)), (I 0), (B false)] [(0, 1, (V.ifc 43 a0.nod.nod)), (1, 1, v4.nod.nod), (3, 2, v6.nod.nod)] fun v7 =>
 C.aBx false 10 (own0 v7 (V.ifc 43 a0.nod.nod)).nod H5 fun v8 H9 =>
 R [v8, (I 0)] H9)
theorem wf39 : (Nat.ble 1 Try.f39.ntmps && wfC an39 Try.f39.ntmps (Try.f39.body.getD .skip)) = true := by kernel_rfl
theorem tie39 (C : Cb) (a0 : V) (H : Hp) (R : List V → Hp → Prop) : wpG Try.prog C an39 (Try.f39.body.getD .skip) (argF [a0]) H (retG Try.prog C Try.f39 R) (fun _ _ _ => False) (retG Try.prog C Try.f39 R) = vc39 C a0 H R := by kernel_rfl
theorem mkE39 (a0 : V) {H : Hp} {Q : V → Hp → Prop} (h : vc39 (real Try.prog) a0 H (retW Q)) : RetE Try.prog 39 [a0] H Q :=
 retE_mk (an := an39) hm Try.call39 Try.func39 rfl wf39 (Eq.mpr (tie39 (real Try.prog) a0 H (retW Q)) h)
def an59 : An := { imm := [], jn := [], lp := [], loud := [], ord := [] }
def vc59 (C : Cb) (a0 : V) (H : Hp) (R : List V → Hp → Prop) : Prop :=
 C.aNilP (Try.prog.underlying 44) .neq a0.nod.nod fun v1 =>
 Jv (fun v2 H3 =>
 R [v2] H3)
 (fun R4 =>
 aG v1.nod true (
 C.aNC a0.nod.nod fun v5 =>
 C.aFA 1 1 false v5.nod fun v6 =>
 C.aLd 1 false false v6.nod H fun v7 H8 =>
 C.aNilP (Try.prog.underlying 100) .neq v7.nod fun v9 =>
 R4 v9.nod H8) (
 R4 (B false) H))
theorem wf59 : (Nat.ble 1 Try.f59.ntmps && wfC an59 Try.f59.ntmps (Try.f59.body.getD .skip)) = true := by kernel_rfl
theorem tie59 (C : Cb) (a0 : V) (H : Hp) (R : List V → Hp → Prop) : wpG Try.prog C an59 (Try.f59.body.getD .skip) (argF [a0]) H (retG Try.prog C Try.f59 R) (fun _ _ _ => False) (retG Try.prog C Try.f59 R) = vc59 C a0 H R := by kernel_rfl
theorem mk59 (a0 : V) {H : Hp} {v : V} {H1 : Hp} (hd : v.Nd) (hn : H.length ≤ H1.length) (hb : H1 = H ∨ ∀ (b : Nat) (blk : Blk), H1[b]? = some blk → H[b]? = some blk ∨ BelB H1.length blk) (h : vc59 (real Try.prog) a0 H (retF v H1)) : Ret Try.prog 59 [a0] H v H1 :=
 ret_mk (an := an59) hm Try.call59 Try.func59 rfl wf59 hd hn hb (Eq.mpr (tie59 (real Try.prog) a0 H (retF v H1)) h)
def an61 : An := { imm := [], jn := [], lp := [], loud := [], ord := [] }
def vc61 (C : Cb) (a0 a1 a2 : V) (H : Hp) (R : List V → Hp → Prop) : Prop :=
 C.aBin (Try.prog.underlying 3) .geq a0.nod.nod a1.nod.nod fun v1 =>
 Jv (fun v2 H3 =>
 R [v2] H3)
 (fun R4 =>
 aG v1.nod true (
 C.aBin (Try.prog.underlying 3) .leq a0.nod.nod a2.nod.nod fun v5 =>
 R4 v5.nod H) (
 R4 (B false) H))
theorem wf61 : (Nat.ble 3 Try.f61.ntmps && wfC an61 Try.f61.ntmps (Try.f61.body.getD .skip)) = true := by kernel_rfl
theorem tie61 (C : Cb) (a0 a1 a2 : V) (H : Hp) (R : List V → Hp → Prop) : wpG Try.prog C an61 (Try.f61.body.getD .skip) (argF [a0, a1, a2]) H (retG Try.prog C Try.f61 R) (fun _ _ _ => False) (retG Try.prog C Try.f61 R) = vc61 C a0 a1 a2 H R := by kernel_rfl
theorem mk61 (a0 a1 a2 : V) {H : Hp} {v : V} {H1 : Hp} (hd : v.Nd) (hn : H.length ≤ H1.length) (hb : H1 = H ∨ ∀ (b : Nat) (blk : Blk), H1[b]? = some blk → H[b]? = some blk ∨ BelB H1.length blk) (h : vc61 (real Try.prog) a0 a1 a2 H (retF v H1)) : Ret Try.prog 61 [a0, a1, a2] H v H1 :=
 ret_mk (an := an61) hm Try.call61 Try.func61 rfl wf61 hd hn hb (Eq.mpr (tie61 (real Try.prog) a0 a1 a2 H (retF v H1)) h)
def an68 : An := { imm := [], jn := [], lp := [], loud := [], ord := [] }
def vc68 (C : Cb) (a0 : V) (H : Hp) (R : List V → Hp → Prop) : Prop :=
 C.aNilP (Try.prog.underlying 43) .neq a0.nod.nod fun v1 =>
 Jv (fun v2 H3 =>
 R [v2] H3)
 (fun R4 =>
 aG v1.nod true (
 C.aNC a0.nod.nod fun v5 =>
 C.aFA 0 1 false v5.nod fun v6 =>
 C.aLd 1 false false v6.nod H fun v7 H8 =>
 R4 v7.nod H8) (
 R4 (B false) H))
theorem wf68 : (Nat.ble 1 Try.f68.ntmps && wfC an68 Try.f68.ntmps (Try.f68.body.getD .skip)) = true := by kernel_rfl
theorem tie68 (C : Cb) (a0 : V) (H : Hp) (R : List V → Hp → Prop) : wpG Try.prog C an68 (Try.f68.body.getD .skip) (argF [a0]) H (retG Try.prog C Try.f68 R) (fun _ _ _ => False) (retG Try.prog C Try.f68 R) = vc68 C a0 H R := by kernel_rfl
theorem mk68 (a0 : V) {H : Hp} {v : V} {H1 : Hp} (hd : v.Nd) (hn : H.length ≤ H1.length) (hb : H1 = H ∨ ∀ (b : Nat) (blk : Blk), H1[b]? = some blk → H[b]? = some blk ∨ BelB H1.length blk) (h : vc68 (real Try.prog) a0 H (retF v H1)) : Ret Try.prog 68 [a0] H v H1 :=
 ret_mk (an := an68) hm Try.call68 Try.func68 rfl wf68 hd hn hb (Eq.mpr (tie68 (real Try.prog) a0 H (retF v H1)) h)
def an69 : An := { imm := [], jn := [], lp := [], loud := [], ord := [] }
def vc69 (C : Cb) (a0 a1 a2 a3 : V) (H : Hp) (R : List V → Hp → Prop) : Prop :=
 C.callE 61 [a0.nod.nod, (I 1), (I 100)] H fun v1 H2 =>
 Jv (fun v3 H4 =>
 Jv (fun v8 H9 =>
 Jv (fun v13 H14 =>
 R [v13] H14)
 (fun R15 =>
 aG v8.nod true (
 C.callE 61 [a3.nod.nod, (I 0), (I 1099511627776)] H9 fun v16 H17 =>
 R15 v16.nod H17) (
 R15 (B false) H9)))
 (fun R10 =>
 aG v3.nod true (
 C.callE 61 [a2.nod.nod, (I 0), (I 1099511627776)] H4 fun v11 H12 =>
 R10 v11.nod H12) (
 R10 (B false) H4)))
 (fun R5 =>
 aG v1.nod true (
 C.callE 61 [a1.nod.nod, (I 1), (I 100)] H2 fun v6 H7 =>
 R5 v6.nod H7) (
 R5 (B false) H2))
theorem wf69 : (Nat.ble 4 Try.f69.ntmps && wfC an69 Try.f69.ntmps (Try.f69.body.getD .skip)) = true := by kernel_rfl
theorem tie69 (C : Cb) (a0 a1 a2 a3 : V) (H : Hp) (R : List V → Hp → Prop) : wpG Try.prog C an69 (Try.f69.body.getD .skip) (argF [a0, a1, a2, a3]) H (retG Try.prog C Try.f69 R) (fun _ _ _ => False) (retG Try.prog C Try.f69 R) = vc69 C a0 a1 a2 a3 H R := by kernel_rfl
theorem mk69 (a0 a1 a2 a3 : V) {H : Hp} {v : V} {H1 : Hp} (hd : v.Nd) (hn : H.length ≤ H1.length) (hb : H1 = H ∨ ∀ (b : Nat) (blk : Blk), H1[b]? = some blk → H[b]? = some blk ∨ BelB H1.length blk) (h : vc69 (real Try.prog) a0 a1 a2 a3 H (retF v H1)) : Ret Try.prog 69 [a0, a1, a2, a3] H v H1 :=
 ret_mk (an := an69) hm Try.call69 Try.func69 rfl wf69 hd hn hb (Eq.mpr (tie69 (real Try.prog) a0 a1 a2 a3 H (retF v H1)) h)
def an70 : An := { imm := [], jn := [(6, [1, 2, 3, 4, 11, 12, 13, 17, 18, 19, 24])], lp := [(3, [1, 2, 3, 4, 11, 17, 18, 19])], loud := [], ord := [] }
def vc70 (C : Cb) (a0 a1 a2 a3 a4 : V) (H : Hp) (R : List V → Hp → Prop) : Prop :=
 C.aNC a0.nod.nod fun v1 =>
 C.aFA 1 1 false v1.nod fun v2 =>
 C.aLd 1 false false v2.nod H fun v3 H4 =>
 C.aLen v3.nod fun v5 =>
 LoopA (fun l6 H7 K8 =>
 C.aBin (Try.prog.underlying 3) .lss (l6.getD 7 .junk).nod (l6.getD 6 .junk).nod fun v9 =>
 aCond v9.nod (
 C.aIx 7 (l6.getD 5 .junk).nod (l6.getD 7 .junk).nod fun v10 =>
 C.aLd 7 true false v10.nod H7 fun v11 H12 =>
 C.aBx false 7 (V.agg [(I 0), (I 0), (I 0), (I 0), (I 0), (B false), (I 0)]) H12 fun v13 H14 =>
 C.aSt 7 v13.nod v11 H14 fun v15 H16 =>
 Jn (fun l17 H18 =>
 aCond (l17.getD 10 .junk).nod (
 C.aBin (Try.prog.underlying 3) .add (l17.getD 9 .junk).nod (I 1) fun v20 =>
 K8 [(l17.getD 0 .junk), (l17.getD 1 .junk), (l17.getD 2 .junk), (l17.getD 3 .junk), (l17.getD 4 .junk), (l17.getD 7 .junk), (l17.getD 8 .junk), v20.nod] H18) (
 C.aFA 0 5 true (l17.getD 6 .junk).nod fun v21 =>
 C.aFA 2 1 false v21.nod fun v22 =>
 C.aLd 1 false false v22.nod H18 fun v23 H24 =>
 C.aBin (Try.prog.underlying 3) .lss (l17.getD 3 .junk).nod.nod v23.nod fun v25 =>
 Jv (fun v26 H27 =>
 Jv (fun v34 H35 =>
 aCond v34.nod (
 C.aBin (Try.prog.underlying 3) .add (l17.getD 9 .junk).nod (I 1) fun v46 =>
 K8 [(l17.getD 0 .junk), (l17.getD 1 .junk), (l17.getD 2 .junk), (l17.getD 3 .junk), (l17.getD 4 .junk), (l17.getD 7 .junk), (l17.getD 8 .junk), v46.nod] H35) (
 R [(l17.getD 5 .junk).nod.nod] H35))
 (fun R36 =>
 aG v26.nod false (
 C.aFA 6 1 false (l17.getD 6 .junk).nod fun v37 =>
 C.aLd 1 false false v37.nod H27 fun v38 H39 =>
 C.aFA 0 5 true (l17.getD 6 .junk).nod fun v40 =>
 C.aFA 4 1 false v40.nod fun v41 =>
 C.aLd 1 false false v41.nod H39 fun v42 H43 =>
 C.aBin (Try.prog.underlying 3) .sub v42.nod (l17.getD 2 .junk).nod.nod fun v44 =>
 C.aBin (Try.prog.underlying 3) .gtr v38.nod v44.nod fun v45 =>
 R36 v45.nod H43) (
 R36 (B true) H27)))
 (fun R28 =>
 aG v25.nod false (
 C.aFA 0 5 true (l17.getD 6 .junk).nod fun v29 =>
 C.aFA 3 1 false v29.nod fun v30 =>
 C.aLd 1 false false v30.nod H24 fun v31 H32 =>
 C.aBin (Try.prog.underlying 3) .geq (l17.getD 3 .junk).nod.nod v31.nod fun v33 =>
 R28 v33.nod H32) (
 R28 (B true) H24))))
 (fun R19 =>
 C.aFA 5 1 false v13.nod fun v47 =>
 C.aLd 1 false false v47.nod H16 fun v48 H49 =>
 Jv (fun v50 H51 =>
 Jv (fun v58 H59 =>
 R19 [(l6.getD 0 .junk), (l6.getD 1 .junk), (l6.getD 2 .junk), (l6.getD 3 .junk), (l6.getD 4 .junk), (l6.getD 7 .junk).nod, v13, (l6.getD 5 .junk), (l6.getD 6 .junk), (l6.getD 7 .junk), v58] H59)
 (fun R60 =>
 aG v50.nod false (
 C.aFA 0 5 true v13.nod fun v61 =>
 C.aFA 1 1 false v61.nod fun v62 =>
 C.aLd 1 false false v62.nod H51 fun v63 H64 =>
 C.aBin (Try.prog.underlying 3) .neq v63.nod (I 0) fun v65 =>
 aG v65.nod true (
 C.aFA 0 5 true v13.nod fun v66 =>
 C.aFA 1 1 false v66.nod fun v67 =>
 C.aLd 1 false false v67.nod H64 fun v68 H69 =>
 C.aBin (Try.prog.underlying 3) .neq v68.nod (l6.getD 1 .junk).nod.nod fun v70 =>
 R60 v70.nod.nod H69) (
 R60 (B false) H64)) (
 UD = UD ∧
 UD = UD ∧
 UD = UD ∧
 UD = UD ∧
 UD = UD ∧
 R60 (B true) H51)))
 (fun R52 =>
 aG v48.nod false (
 C.aFA 0 5 true v13.nod fun v53 =>
 C.aFA 0 1 false v53.nod fun v54 =>
 C.aLd 1 false false v54.nod H49 fun v55 H56 =>
 C.aBin (Try.prog.underlying 3) .neq v55.nod (l6.getD 0 .junk).nod.nod fun v57 =>
 R52 v57.nod H56) (
 R52 (B true) H49)))) (
 R [(l6.getD 4 .junk).nod] H7))
 [a1, a2, a3, a4, (I (-1)), v3, v5, (I 0)] H4
theorem wf70 : (Nat.ble 5 Try.f70.ntmps && wfC an70 Try.f70.ntmps (Try.f70.body.getD .skip)) = true := by kernel_rfl
theorem tie70 (C : Cb) (a0 a1 a2 a3 a4 : V) (H : Hp) (R : List V → Hp → Prop) : wpG Try.prog C an70 (Try.f70.body.getD .skip) (argF [a0, a1, a2, a3, a4]) H (retG Try.prog C Try.f70 R) (fun _ _ _ => False) (retG Try.prog C Try.f70 R) = vc70 C a0 a1 a2 a3 a4 H R := by kernel_rfl
theorem mk70 (a0 a1 a2 a3 a4 : V) {H : Hp} {v : V} {H1 : Hp} (hd : v.Nd) (hn : H.length ≤ H1.length) (hb : H1 = H ∨ ∀ (b : Nat) (blk : Blk), H1[b]? = some blk → H[b]? = some blk ∨ BelB H1.length blk) (h : vc70 (real Try.prog) a0 a1 a2 a3 a4 H (retF v H1)) : Ret Try.prog 70 [a0, a1, a2, a3, a4] H v H1 :=
 ret_mk (an := an70) hm Try.call70 Try.func70 rfl wf70 hd hn hb (Eq.mpr (tie70 (real Try.prog) a0 a1 a2 a3 a4 H (retF v H1)) h)
def an22 : An := { imm := [3], jn := [(5, [0, 3])], lp := [], loud := [23], ord := [] }
def vc22 (C : Cb) (a0 a1 : V) (H : Hp) (R : List V → Hp → Prop) : Prop :=
 C.aBx true 6 a1.nod H fun v1 H2 =>
 Jn (fun l3 H4 =>
 C.aNC (l3.getD 0 .junk).nod.nod fun v6 =>
 C.aFA 1 1 false v6.nod fun v7 =>
 C.aLd 1 false false v7.nod H4 fun v8 H9 =>
 C.aNC v8.nod fun v10 =>
 C.aFA 0 1 false v10.nod fun v11 =>
 C.aLd 1 false false v11.nod H9 fun v12 H13 =>
 C.aLd 6 true false (l3.getD 1 .junk).nod H13 fun v14 H15 =>
 C.call 60 [(l3.getD 0 .junk).nod.nod, v12.nod, v14.nod] H15 fun v16 H17 =>
 C.aExt 0 v16.nod fun v18 =>
 C.aExt 1 v16.nod fun v19 =>
 R [v18, v19] H17)
 (fun R5 =>
 C.callE 59 [a0.nod.nod] H2 fun v20 H21 =>
 C.aUn .not v20.nod fun v22 =>
 aCond v22.nod (
 R [(I 0), (I 1)] H21) (
 C.aLd 6 true false v1.nod H21 fun v23 H24 =>
 C.callE 52 [v23.nod] H24 fun v25 H26 =>
 C.aUn .not v25.nod fun v27 =>
 aCond v27.nod (
 R [(I 0), (I 2)] H26) (
 R5 [a0, v1] H26)))
theorem wf22 : (Nat.ble 2 Try.f22.ntmps && wfC an22 Try.f22.ntmps (Try.f22.body.getD .skip)) = true := by kernel_rfl
theorem tie22 (C : Cb) (a0 a1 : V) (H : Hp) (R : List V → Hp → Prop) : wpG Try.prog C an22 (Try.f22.body.getD .skip) (argF [a0, a1]) H (retG Try.prog C Try.f22 R) (fun _ _ _ => False) (retG Try.prog C Try.f22 R) = vc22 C a0 a1 H R := by kernel_rfl
theorem mkE22 (a0 a1 : V) {H : Hp} {Q : V → Hp → Prop} (h : vc22 (real Try.prog) a0 a1 H (retW Q)) : RetE Try.prog 22 [a0, a1] H Q :=
 retE_mk (an := an22) hm Try.call22 Try.func22 rfl wf22 (Eq.mpr (tie22 (real Try.prog) a0 a1 H (retW Q)) h)
def an25 : An := { imm := [2, 3], jn := [(5, [2, 3]), (6, [2, 3, 37]), (8, [2, 3]), (12, [2, 3, 5, 6, 60, 61]), (14, [2, 3]), (15, [2])], lp := [(9, [2, 3, 60, 61])], loud := [105], ord := [(14, [(0, 13), (3, 13)], [[4, 5, 6, 7, 8, 9, 10, 11, 12, 13, 0, 1, 2, 3, 14, 15, 16, 17], [0, 1, 2, 4, 5, 6, 7, 8, 9, 10, 11, 12, 13, 3, 14, 15, 16, 17], [0, 1, 2, 3, 4, 5, 6, 7, 8, 9, 10, 11, 12, 13, 14, 15, 16, 17]])] }
def vc25 (C : Cb) (a0 a1 : V) (H : Hp) (R : List V → Hp → Prop) : Prop :=
 C.aBx true 1 a0.nod H fun v1 H2 =>
 C.aBx true 1 a1.nod H2 fun v3 H4 =>
 Jn (fun l5 H6 =>
 Jn (fun l8 H9 =>
 aCond (l8.getD 2 .junk).nod (
 R [(I 0)] H9) (
 Jn (fun l11 H12 =>
 Jn (fun l14 H15 =>
 Jn (fun l17 H18 =>
 C.aLd 1 false false (l17.getD 0 .junk).nod H18 fun v20 H21 =>
 C.aNC v20.nod fun v22 =>
 C.aFA 6 1 false v22.nod fun v23 =>
 C.aSt 1 v23.nod (I 2) H21 fun v24 H25 =>
 R [(I 0)] H25)
 (fun R19 =>
 (C.aLd 1 false false (l14.getD 0 .junk).nod H15 fun v26 H27 =>
 C.aNC v26.nod fun v28 =>
 C.aFA 7 1 false v28.nod fun v29 =>
 C.aLd 1 false false v29.nod H27 fun v30 H31 =>
 C.aNC v30.nod fun v32 =>
 C.aFA 0 6 true v32.nod fun v33 =>
 C.aFA 4 1 false v33.nod fun v34 =>
 C.aLd 1 false false v34.nod H31 fun v35 H36 =>
 C.call 66 [v35.nod, (V.fn 67 [(l14.getD 0 .junk).nod, (l14.getD 1 .junk).nod])] H36 fun v37 H38 =>
 C.aLd 1 false false (l14.getD 0 .junk).nod H38 fun v39 H40 =>
 C.aNC v39.nod fun v41 =>
 C.aFA 7 1 false v41.nod fun v42 =>
 C.aLd 1 false false v42.nod H40 fun v43 H44 =>
 C.aNC v43.nod fun v45 =>
 C.aFA 0 6 true v45.nod fun v46 =>
 C.aFA 4 1 false v46.nod fun v47 =>
 C.aSt 1 v47.nod v37 H44 fun v48 H49 =>
 R19 [(l14.getD 0 .junk)] H49) ∧ (C.aLd 1 false false (l14.getD 0 .junk).nod H15 fun v50 H51 =>
 C.aNC v50.nod fun v52 =>
 C.aFA 7 1 false v52.nod fun v53 =>
 C.aLd 1 false false (l14.getD 0 .junk).nod H51 fun v54 H55 =>
 C.aNC v54.nod fun v56 =>
 C.aFA 7 1 false v56.nod fun v57 =>
 C.aLd 1 false false v57.nod H55 fun v58 H59 =>
 C.aNC v58.nod fun v60 =>
 C.aFA 0 6 true v60.nod fun v61 =>
 C.aFA 4 1 false v61.nod fun v62 =>
 C.aLd 1 false false v62.nod H59 fun v63 H64 =>
 C.call 66 [v63.nod, (V.fn 67 [(l14.getD 0 .junk).nod, (l14.getD 1 .junk).nod])] H64 fun v65 H66 =>
 C.aLd 1 false false v53.nod H66 fun v67 H68 =>
 C.aNC v67.nod fun v69 =>
 C.aFA 0 6 true v69.nod fun v70 =>
 C.aFA 4 1 false v70.nod fun v71 =>
 C.aSt 1 v71.nod v65 H68 fun v72 H73 =>
 R19 [(l14.getD 0 .junk)] H73) ∧ (C.aLd 1 false false (l14.getD 0 .junk).nod H15 fun v74 H75 =>
 C.aNC v74.nod fun v76 =>
 C.aFA 7 1 false v76.nod fun v77 =>
 C.aLd 1 false false v77.nod H75 fun v78 H79 =>
 C.aLd 1 false false (l14.getD 0 .junk).nod H79 fun v80 H81 =>
 C.aNC v80.nod fun v82 =>
 C.aFA 7 1 false v82.nod fun v83 =>
 C.aLd 1 false false v83.nod H81 fun v84 H85 =>
 C.aNC v84.nod fun v86 =>
 C.aFA 0 6 true v86.nod fun v87 =>
 C.aFA 4 1 false v87.nod fun v88 =>
 C.aLd 1 false false v88.nod H85 fun v89 H90 =>
 C.call 66 [v89.nod, (V.fn 67 [(l14.getD 0 .junk).nod, (l14.getD 1 .junk).nod])] H90 fun v91 H92 =>
 C.aNC v78.nod fun v93 =>
 C.aFA 0 6 true v93.nod fun v94 =>
 C.aFA 4 1 false v94.nod fun v95 =>
 C.aSt 1 v95.nod v91 H92 fun v96 H97 =>
 R19 [(l14.getD 0 .junk)] H97)))
 (fun R16 =>
 C.aLd 1 false false (l11.getD 1 .junk).nod H12 fun v98 H99 =>
 LoopA (fun l100 H101 K102 =>
 C.aBin (Try.prog.underlying 3) .lss (l100.getD 3 .junk).nod (l100.getD 2 .junk).nod fun v103 =>
 aCond v103.nod (
 Jn (fun l104 H105 =>
 C.aNC (l104.getD 3 .junk).nod.nod fun v107 =>
 C.aLd 1 false false v107.nod H105 fun v108 H109 =>
 C.aLd 1 false false (l104.getD 1 .junk).nod H109 fun v110 H111 =>
 C.aBin (Try.prog.underlying 3) .sub v110.nod (l104.getD 2 .junk).nod.nod fun v112 =>
 C.aBin (Try.prog.underlying 3) .mul v108.nod v112.nod fun v113 =>
 C.aLd 1 false false (l104.getD 1 .junk).nod H111 fun v114 H115 =>
 C.aBin (Try.prog.underlying 3) .add v114.nod (I 1) fun v116 =>
 C.aBin (Try.prog.underlying 3) .quo v113.nod v116.nod fun v117 =>
 C.aNC (l104.getD 3 .junk).nod.nod fun v118 =>
 C.aSt 1 v118.nod v117 H115 fun v119 H120 =>
 C.aBin (Try.prog.underlying 3) .add (l104.getD 5 .junk).nod (I 1) fun v121 =>
 K102 [(l104.getD 0 .junk), (l104.getD 1 .junk), (l104.getD 4 .junk), v121.nod] H120)
 (fun R106 =>
 C.aLd 1 false false (l100.getD 0 .junk).nod H101 fun v122 H123 =>
 C.aNC v122.nod fun v124 =>
 C.aFA 7 1 false v124.nod fun v125 =>
 C.aLd 1 false false v125.nod H123 fun v126 H127 =>
 C.aNC v126.nod fun v128 =>
 C.aFA 0 6 true v128.nod fun v129 =>
 C.aFA 2 1 false v129.nod fun v130 =>
 C.aLd 1 false false v130.nod H127 fun v131 H132 =>
 C.aLd 1 false false (l100.getD 0 .junk).nod H132 fun v133 H134 =>
 C.aNC v133.nod fun v135 =>
 C.aFA 8 1 false v135.nod fun v136 =>
 C.aLd 1 false false v136.nod H134 fun v137 H138 =>
 C.aBin (Try.prog.underlying 3) .add v137.nod (l100.getD 3 .junk).nod.nod.nod fun v139 =>
 C.aIx 1 v131.nod v139.nod fun v140 =>
 R106 [(l100.getD 0 .junk), (l100.getD 1 .junk), (l100.getD 3 .junk).nod, v140, (l100.getD 2 .junk), (l100.getD 3 .junk)] H138)) (
 R16 [(l100.getD 0 .junk), (l100.getD 1 .junk)] H101))
 [(l11.getD 0 .junk), (l11.getD 1 .junk), v98, (I 0)] H99))
 (fun R13 =>
 C.aLd 1 false false (l8.getD 0 .junk).nod H9 fun v141 H142 =>
 C.aNC v141.nod fun v143 =>
 C.aFA 7 1 false v143.nod fun v144 =>
 C.aLd 1 false false v144.nod H142 fun v145 H146 =>
 C.aLd 1 false false (l8.getD 0 .junk).nod H146 fun v147 H148 =>
 C.aNC v147.nod fun v149 =>
 C.aFA 7 1 false v149.nod fun v150 =>
 C.aLd 1 false false v150.nod H148 fun v151 H152 =>
 C.aNC v151.nod fun v153 =>
 C.aFA 0 6 true v153.nod fun v154 =>
 C.aFA 2 1 false v154.nod fun v155 =>
 C.aLd 1 false false v155.nod H152 fun v156 H157 =>
 C.aLd 1 false false (l8.getD 0 .junk).nod H157 fun v158 H159 =>
 C.aNC v158.nod fun v160 =>
 C.aFA 8 1 false v160.nod fun v161 =>
 C.aLd 1 false false v161.nod H159 fun v162 H163 =>
 C.aLd 1 false false (l8.getD 1 .junk).nod H163 fun v164 H165 =>
 C.aBin (Try.prog.underlying 3) .add v162.nod v164.nod fun v166 =>
 C.aSlc 1 v156.nod none (some v166.nod) none fun v167 =>
 C.aNC v145.nod fun v168 =>
 C.aFA 0 6 true v168.nod fun v169 =>
 C.aFA 2 1 false v169.nod fun v170 =>
 C.aSt 1 v170.nod v167 H165 fun v171 H172 =>
 R13 [(l8.getD 0 .junk), (l8.getD 1 .junk)] H172)))
 (fun R10 =>
 C.aLd 1 false false (l5.getD 0 .junk).nod H6 fun v173 H174 =>
 C.aNC v173.nod fun v175 =>
 C.aFA 6 1 false v175.nod fun v176 =>
 C.aLd 1 false false v176.nod H174 fun v177 H178 =>
 C.aBin (Try.prog.underlying 3) .eql v177.nod (I 0) fun v179 =>
 Jv (fun v180 H181 =>
 R10 [(l5.getD 0 .junk), (l5.getD 1 .junk), v180] H181)
 (fun R182 =>
 aG v179.nod false (
 C.aLd 1 false false (l5.getD 0 .junk).nod H178 fun v183 H184 =>
 C.aNC v183.nod fun v185 =>
 C.aFA 7 1 false v185.nod fun v186 =>
 C.aLd 1 false false v186.nod H184 fun v187 H188 =>
 C.aNC v187.nod fun v189 =>
 C.aFA 0 6 true v189.nod fun v190 =>
 C.aFA 2 1 false v190.nod fun v191 =>
 C.aLd 1 false false v191.nod H188 fun v192 H193 =>
 C.aLen v192.nod fun v194 =>
 C.aLd 1 false false (l5.getD 0 .junk).nod H193 fun v195 H196 =>
 C.aNC v195.nod fun v197 =>
 C.aFA 8 1 false v197.nod fun v198 =>
 C.aLd 1 false false v198.nod H196 fun v199 H200 =>
 C.aBin (Try.prog.underlying 3) .sub v194.nod v199.nod fun v201 =>
 C.aLd 1 false false (l5.getD 1 .junk).nod H200 fun v202 H203 =>
 C.aBin (Try.prog.underlying 3) .leq v201.nod v202.nod fun v204 =>
 R182 v204.nod H203) (
 R182 (B true) H178))))
 (fun R7 =>
 C.aLd 1 false false v1.nod H4 fun v205 H206 =>
 C.callE 59 [v205.nod] H206 fun v207 H208 =>
 C.aUn .not v207.nod fun v209 =>
 aCond v209.nod (
 R [(I 1)] H208) (
 C.aLd 1 false false v3.nod H208 fun v210 H211 =>
 C.callE 61 [v210.nod, (I 0), (I 10000)] H211 fun v212 H213 =>
 C.aUn .not v212.nod fun v214 =>
 aCond v214.nod (
 R [(I 2)] H213) (
 R7 [v1, v3] H213)))
theorem wf25 : (Nat.ble 2 Try.f25.ntmps && wfC an25 Try.f25.ntmps (Try.f25.body.getD .skip)) = true := by kernel_rfl
theorem tie25 (C : Cb) (a0 a1 : V) (H : Hp) (R : List V → Hp → Prop) : wpG Try.prog C an25 (Try.f25.body.getD .skip) (argF [a0, a1]) H (retG Try.prog C Try.f25 R) (fun _ _ _ => False) (retG Try.prog C Try.f25 R) = vc25 C a0 a1 H R := by kernel_rfl
theorem mkE25 (a0 a1 : V) {H : Hp} {Q : V → Hp → Prop} (h : vc25 (real Try.prog) a0 a1 H (retW Q)) : RetE Try.prog 25 [a0, a1] H Q :=
 retE_mk (an := an25) hm Try.call25 Try.func25 rfl wf25 (Eq.mpr (tie25 (real Try.prog) a0 a1 H (retW Q)) h)
def an51 : An := { imm := [], jn := [], lp := [], loud := [], ord := [] }
def vc51 (C : Cb) (H : Hp) (R : List V → Hp → Prop) : Prop :=
 C.aBx false 6 (V.agg [(I 0), (I 0), (V.arr [] .full), (V.arr [] .full), (V.arr [] .full), (I 0)]) H fun v1 H2 =>
 C.aBS 1 6 (I 0) [(0, (I 1)), (1, (I 2)), (2, (I 3)), (3, (I 4)), (4, (I 5)), (5, (I 6))] fun v3 =>
 C.aBS 1 3 (I 0) [(0, (I 0)), (1, (I 2)), (2, (I 4))] fun v4 =>
 C.aBd [(I 0), (V.imm (.string (ByteArray.mk #[])))] [(0, 1, (I 2)), (1, 1, (V.imm (.string (ByteArray.mk #[120]))))] fun v5 =>
 C.aBS 2 1 (V.agg [(I 0), (V.imm (.string (ByteArray.mk #[])))]) [(0, v5.nod)] fun v6 =>
 C.aBd [(I 0), (I 0), (V.arr [] .full), (V.arr [] .full), (V.arr [] .full), (I 0)] [(0, 1, (I 1)), (1, 1, (I 1)), (2, 1, v3.nod.nod), (3, 1, v4.nod.nod), (4, 1, v6.nod.nod)] fun v7 =>
 C.aSt 6 v1.nod v7 H2 fun v8 H9 =>
 C.aRes 6 true v1 H9 fun v10 =>
 R [v10] H9
theorem wf51 : (Nat.ble 0 Try.f51.ntmps && wfC an51 Try.f51.ntmps (Try.f51.body.getD .skip)) = true := by kernel_rfl
theorem tie51 (C : Cb) (H : Hp) (R : List V → Hp → Prop) : wpG Try.prog C an51 (Try.f51.body.getD .skip) (argF []) H (retG Try.prog C Try.f51 R) (fun _ _ _ => False) (retG Try.prog C Try.f51 R) = vc51 C H R := by kernel_rfl
theorem mk51 {H : Hp} {v : V} {H1 : Hp} (hd : v.Nd) (hn : H.length ≤ H1.length) (hb : H1 = H ∨ ∀ (b : Nat) (blk : Blk), H1[b]? = some blk → H[b]? = some blk ∨ BelB H1.length blk) (h : vc51 (real Try.prog) H (retF v H1)) : Ret Try.prog 51 [] H v H1 :=
 ret_mk (an := an51) hm Try.call51 Try.func51 rfl wf51 hd hn hb (Eq.mpr (tie51 (real Try.prog) H (retF v H1)) h)
def an52 : An := { imm := [1], jn := [(2, [1, 40]), (9, [1, 45, 46, 47, 72]), (15, [1, 75, 76, 77, 110])], lp := [(6, [1, 45, 46, 47]), (12, [1, 75, 76, 77])], loud := [87, 92], ord := [] }
def vc52 (C : Cb) (a0 : V) (H : Hp) (R : List V → Hp → Prop) : Prop :=
 C.aBx true 6 a0.nod H fun v1 H2 =>
 Jn (fun l3 H4 =>
 aCond (l3.getD 1 .junk).nod (
 R [(B false)] H4) (
 C.aFA 2 1 false (l3.getD 0 .junk).nod fun v6 =>
 C.aLd 1 false false v6.nod H4 fun v7 H8 =>
 C.callE 89 [v7.nod, (V.fn 90 [])] H8 fun v9 H10 =>
 aCond v9.nod (
 R [(B false)] H10) (
 C.aFA 3 1 false (l3.getD 0 .junk).nod fun v11 =>
 C.aLd 1 false false v11.nod H10 fun v12 H13 =>
 C.aLen v12.nod fun v14 =>
 LoopA (fun l15 H16 K17 =>
 C.aBin (Try.prog.underlying 3) .lss (l15.getD 3 .junk).nod (l15.getD 2 .junk).nod fun v18 =>
 aCond v18.nod (
 C.aIx 1 (l15.getD 1 .junk).nod (l15.getD 3 .junk).nod fun v19 =>
 C.aLd 1 false false v19.nod H16 fun v20 H21 =>
 Jn (fun l22 H23 =>
 aCond (l22.getD 4 .junk).nod (
 R [(B false)] H23) (
 C.aBin (Try.prog.underlying 3) .add (l22.getD 3 .junk).nod (I 1) fun v25 =>
 K17 [(l22.getD 0 .junk), (l22.getD 1 .junk), (l22.getD 2 .junk), v25.nod] H23))
 (fun R24 =>
 C.aFA 2 1 false (l15.getD 0 .junk).nod fun v26 =>
 C.aLd 1 false false v26.nod H21 fun v27 H28 =>
 C.aLen v27.nod fun v29 =>
 C.aBin (Try.prog.underlying 3) .sub v29.nod (I 1) fun v30 =>
 C.callE 61 [v20.nod.nod, (I 0), v30.nod] H28 fun v31 H32 =>
 C.aUn .not v31.nod fun v33 =>
 Jv (fun v34 H35 =>
 R24 [(l15.getD 0 .junk), (l15.getD 1 .junk), (l15.getD 2 .junk), (l15.getD 3 .junk), v34] H35)
 (fun R36 =>
 aG v33.nod false (
 C.aBin (Try.prog.underlying 3) .gtr (l15.getD 3 .junk).nod.nod.nod (I 0) fun v37 =>
 aG v37.nod true (
 C.aFA 3 1 false (l15.getD 0 .junk).nod fun v38 =>
 C.aLd 1 false false v38.nod H32 fun v39 H40 =>
 C.aBin (Try.prog.underlying 3) .sub (l15.getD 3 .junk).nod.nod.nod (I 1) fun v41 =>
 C.aIx 1 v39.nod v41.nod fun v42 =>
 C.aLd 1 false false v42.nod H40 fun v43 H44 =>
 C.aBin (Try.prog.underlying 3) .leq v20.nod.nod v43.nod fun v45 =>
 R36 v45.nod.nod H44) (
 R36 (B false) H32)) (
 UD = UD ∧
 UD = UD ∧
 UD = UD ∧
 UD = UD ∧
 UD = UD ∧
 UD = UD ∧
 UD = UD ∧
 UD = UD ∧
 R36 (B true) H32)))) (
 C.aFA 4 1 false (l15.getD 0 .junk).nod fun v46 =>
 C.aLd 1 false false v46.nod H16 fun v47 H48 =>
 C.aLen v47.nod fun v49 =>
 LoopA (fun l50 H51 K52 =>
 C.aBin (Try.prog.underlying 3) .lss (l50.getD 3 .junk).nod (l50.getD 2 .junk).nod fun v53 =>
 aCond v53.nod (
 C.aIx 2 (l50.getD 1 .junk).nod (l50.getD 3 .junk).nod fun v54 =>
 C.aLd 2 true false v54.nod H51 fun v55 H56 =>
 C.aBx false 2 (V.agg [(I 0), (V.imm (.string (ByteArray.mk #[])))]) H56 fun v57 H58 =>
 C.aSt 2 v57.nod v55 H58 fun v59 H60 =>
 Jn (fun l61 H62 =>
 aCond (l61.getD 4 .junk).nod (
 R [(B false)] H62) (
 C.aBin (Try.prog.underlying 3) .add (l61.getD 3 .junk).nod (I 1) fun v64 =>
 K52 [(l61.getD 0 .junk), (l61.getD 1 .junk), (l61.getD 2 .junk), v64.nod] H62))
 (fun R63 =>
 C.aFA 0 1 false v57.nod fun v65 =>
 C.aLd 1 false false v65.nod H60 fun v66 H67 =>
 C.aFA 2 1 false (l50.getD 0 .junk).nod fun v68 =>
 C.aLd 1 false false v68.nod H67 fun v69 H70 =>
 C.aLen v69.nod fun v71 =>
 C.call 61 [v66.nod, (I 0), v71.nod] H70 fun v72 H73 =>
 C.aUn .not v72.nod fun v74 =>
 Jv (fun v75 H76 =>
 Jv (fun v84 H85 =>
 R63 [(l50.getD 0 .junk), (l50.getD 1 .junk), (l50.getD 2 .junk), (l50.getD 3 .junk), v84] H85)
 (fun R86 =>
 aG v75.nod false (
 C.aBin (Try.prog.underlying 3) .gtr (l50.getD 3 .junk).nod.nod.nod (I 0) fun v87 =>
 aG v87.nod true (
 C.aFA 0 1 false v57.nod fun v88 =>
 C.aLd 1 false false v88.nod H76 fun v89 H90 =>
 C.aFA 4 1 false (l50.getD 0 .junk).nod fun v91 =>
 C.aLd 1 false false v91.nod H90 fun v92 H93 =>
 C.aBin (Try.prog.underlying 3) .sub (l50.getD 3 .junk).nod.nod.nod (I 1) fun v94 =>
 C.aIx 2 v92.nod v94.nod fun v95 =>
 C.aFA 0 1 false v95.nod fun v96 =>
 C.aLd 1 false false v96.nod H93 fun v97 H98 =>
 C.aBin (Try.prog.underlying 3) .lss v89.nod v97.nod fun v99 =>
 R86 v99.nod.nod H98) (
 R86 (B false) H76)) (
 UD = UD ∧
 UD = UD ∧
 UD = UD ∧
 UD = UD ∧
 UD = UD ∧
 UD = UD ∧
 UD = UD ∧
 UD = UD ∧
 UD = UD ∧
 UD = UD ∧
 R86 (B true) H76)))
 (fun R77 =>
 aG v74.nod false (
 C.aFA 1 1 false v57.nod fun v78 =>
 C.aLd 1 false false v78.nod H73 fun v79 H80 =>
 C.call 91 [v79.nod] H80 fun v81 H82 =>
 C.aUn .not v81.nod fun v83 =>
 R77 v83.nod H82) (
 R77 (B true) H73)))) (
 R [(B true)] H51))
 [(l15.getD 0 .junk), v47, v49, (I 0)] H48))
 [(l3.getD 0 .junk), v12, v14, (I 0)] H13)))
 (fun R5 =>
 C.aFA 0 1 false v1.nod fun v100 =>
 C.aLd 1 false false v100.nod H2 fun v101 H102 =>
 C.callE 61 [v101.nod, (I 1), (I 100)] H102 fun v103 H104 =>
 C.aUn .not v103.nod fun v105 =>
 Jv (fun v106 H107 =>
 Jv (fun v115 H116 =>
 Jv (fun v124 H125 =>
 Jv (fun v132 H133 =>
 Jv (fun v140 H141 =>
 R5 [v1, v140] H141)
 (fun R142 =>
 aG v132.nod false (
 C.aFA 4 1 false v1.nod fun v143 =>
 C.aLd 1 false false v143.nod H133 fun v144 H145 =>
 C.aLen v144.nod fun v146 =>
 C.aBin (Try.prog.underlying 3) .gtr v146.nod (I 50) fun v147 =>
 R142 v147.nod H145) (
 R142 (B true) H133)))
 (fun R134 =>
 aG v124.nod false (
 C.aFA 3 1 false v1.nod fun v135 =>
 C.aLd 1 false false v135.nod H125 fun v136 H137 =>
 C.aLen v136.nod fun v138 =>
 C.aBin (Try.prog.underlying 3) .gtr v138.nod (I 1000) fun v139 =>
 R134 v139.nod H137) (
 R134 (B true) H125)))
 (fun R126 =>
 aG v115.nod false (
 C.aFA 2 1 false v1.nod fun v127 =>
 C.aLd 1 false false v127.nod H116 fun v128 H129 =>
 C.aLen v128.nod fun v130 =>
 C.aBin (Try.prog.underlying 3) .gtr v130.nod (I 40000) fun v131 =>
 R126 v131.nod H129) (
 R126 (B true) H116)))
 (fun R117 =>
 aG v106.nod false (
 C.aFA 5 1 false v1.nod fun v118 =>
 C.aLd 1 false false v118.nod H107 fun v119 H120 =>
 C.callE 61 [v119.nod, (I 0), (I 1073741824)] H120 fun v121 H122 =>
 C.aUn .not v121.nod fun v123 =>
 R117 v123.nod H122) (
 R117 (B true) H107)))
 (fun R108 =>
 aG v105.nod false (
 C.aFA 1 1 false v1.nod fun v109 =>
 C.aLd 1 false false v109.nod H104 fun v110 H111 =>
 C.callE 61 [v110.nod, (I 1), (I 100)] H111 fun v112 H113 =>
 C.aUn .not v112.nod fun v114 =>
 R108 v114.nod H113) (
 R108 (B true) H104)))
theorem wf52 : (Nat.ble 1 Try.f52.ntmps && wfC an52 Try.f52.ntmps (Try.f52.body.getD .skip)) = true := by kernel_rfl
theorem tie52 (C : Cb) (a0 : V) (H : Hp) (R : List V → Hp → Prop) : wpG Try.prog C an52 (Try.f52.body.getD .skip) (argF [a0]) H (retG Try.prog C Try.f52 R) (fun _ _ _ => False) (retG Try.prog C Try.f52 R) = vc52 C a0 H R := by kernel_rfl
theorem mk52 (a0 : V) {H : Hp} {v : V} {H1 : Hp} (hd : v.Nd) (hn : H.length ≤ H1.length) (hb : H1 = H ∨ ∀ (b : Nat) (blk : Blk), H1[b]? = some blk → H[b]? = some blk ∨ BelB H1.length blk) (h : vc52 (real Try.prog) a0 H (retF v H1)) : Ret Try.prog 52 [a0] H v H1 :=
 ret_mk (an := an52) hm Try.call52 Try.func52 rfl wf52 hd hn hb (Eq.mpr (tie52 (real Try.prog) a0 H (retF v H1)) h)
def an53 : An := { imm := [1], jn := [], lp := [], loud := [], ord := [] }
def vc53 (C : Cb) (a0 : V) (H : Hp) (R : List V → Hp → Prop) : Prop :=
 C.aBx true 2 a0.nod H fun v1 H2 =>
 C.aFA 0 1 false v1.nod fun v3 =>
 C.aLd 1 false false v3.nod H2 fun v4 H5 =>
 C.callE 61 [v4.nod, (I 1), (I 8)] H5 fun v6 H7 =>
 Jv (fun v8 H9 =>
 R [v8] H9)
 (fun R10 =>
 aG v6.nod true (
 C.aFA 1 1 false v1.nod fun v11 =>
 C.aLd 1 false false v11.nod H7 fun v12 H13 =>
 C.callE 61 [v12.nod, (I 1), (I 8)] H13 fun v14 H15 =>
 R10 v14.nod H15) (
 R10 (B false) H7))
theorem wf53 : (Nat.ble 1 Try.f53.ntmps && wfC an53 Try.f53.ntmps (Try.f53.body.getD .skip)) = true := by kernel_rfl
theorem tie53 (C : Cb) (a0 : V) (H : Hp) (R : List V → Hp → Prop) : wpG Try.prog C an53 (Try.f53.body.getD .skip) (argF [a0]) H (retG Try.prog C Try.f53 R) (fun _ _ _ => False) (retG Try.prog C Try.f53 R) = vc53 C a0 H R := by kernel_rfl
theorem mk53 (a0 : V) {H : Hp} {v : V} {H1 : Hp} (hd : v.Nd) (hn : H.length ≤ H1.length) (hb : H1 = H ∨ ∀ (b : Nat) (blk : Blk), H1[b]? = some blk → H[b]? = some blk ∨ BelB H1.length blk) (h : vc53 (real Try.prog) a0 H (retF v H1)) : Ret Try.prog 53 [a0] H v H1 :=
 ret_mk (an := an53) hm Try.call53 Try.func53 rfl wf53 hd hn hb (Eq.mpr (tie53 (real Try.prog) a0 H (retF v H1)) h)
def an54 : An := { imm := [2, 3, 7, 11], jn := [(2, [2, 3, 4, 5]), (7, [2, 5, 6, 7, 8]), (10, [2, 5, 6, 7, 8, 9]), (13, [2, 5, 7, 68])], lp := [(6, [2, 5, 6, 7, 8]), (15, [4, 5, 80, 81, 82])], loud := [63, 78, 95], ord := [] }
def vc54 (C : Cb) (a0 a1 : V) (H : Hp) (R : List V → Hp → Prop) : Prop :=
 C.aBx true 6 a0.nod H fun v1 H2 =>
 C.aBx true 2 a1.nod H2 fun v3 H4 =>
 C.aBx false 6 (V.agg [(I 0), (I 0), (V.arr [] .full), (V.arr [] .full), (V.arr [] .full), (I 0)]) H4 fun v5 H6 =>
 Jn (fun l7 H8 =>
 C.aFA 4 1 false (l7.getD 0 .junk).nod fun v10 =>
 C.aLd 1 false false v10.nod H8 fun v11 H12 =>
 C.aBx false 1 (V.arr [] .full) H12 fun v13 H14 =>
 C.aSt 1 v13.nod v11 H14 fun v15 H16 =>
 C.aLd 6 true false (l7.getD 0 .junk).nod H16 fun v17 H18 =>
 C.aLd 2 true false (l7.getD 1 .junk).nod H18 fun v19 H20 =>
 C.callE 92 [v17.nod, v19.nod] H20 fun v21 H22 =>
 C.range v21.nod 1 H22 (fun l23 H24 (D25 : Hp → (Hp → Prop) → Prop) (K26 : Bool → Hp → Prop) =>
 C.aBx true 3 (l23.getD 0 .junk).nod H24 fun v30 H31 =>
 D25 H31 fun H27 =>
 C.aFA 2 1 false (l7.getD 3 .junk).nod.nod fun v32 =>
 C.aLd 1 false false v32.nod H27 fun v33 H34 =>
 C.aLen v33.nod fun v35 =>
 LoopA (fun l36 H37 K38 =>
 Jn (fun l39 H40 =>
 C.aLd 1 false false (l39.getD 2 .junk).nod H40 fun v42 H43 =>
 C.aIx 2 v42.nod (I 0) fun v44 =>
 C.aFA 1 1 false v44.nod fun v45 =>
 C.aLd 1 false false v45.nod H43 fun v46 H47 =>
 C.aBd [(I 0), (V.imm (.string (ByteArray.mk #[])))] [(0, 1, (l39.getD 4 .junk).nod.nod), (1, 1, v46.nod.nod)] fun v48 =>
 C.aBx false 2 (V.agg [(I 0), (V.imm (.string (ByteArray.mk #[])))]) H47 fun v49 H50 =>
 C.aSt 2 v49.nod (own0 v48 (l39.getD 4 .junk).nod) H50 fun v51 H52 =>
 Jn (fun l53 H54 =>
 C.aFA 4 1 false (l53.getD 1 .junk).nod fun v56 =>
 C.aLd 1 false true v56.nod H54 fun v57 H58 =>
 C.aLd 2 true false (l53.getD 5 .junk).nod H58 fun v59 H60 =>
 C.aBS 2 1 (V.agg [(I 0), (V.imm (.string (ByteArray.mk #[])))]) [(0, v59.nod)] fun v61 =>
 C.aAppS 2 24 v57 v61.nod H60 fun v62 H63 =>
 C.aFA 4 1 false (l53.getD 1 .junk).nod fun v64 =>
 C.aSt 1 v64.nod v62 H63 fun v65 H66 =>
 C.aLd 1 false false (l53.getD 2 .junk).nod H66 fun v67 H68 =>
 C.aSlc 2 v67.nod (some (I 1)) none none fun v69 =>
 C.aSt 1 (l53.getD 2 .junk).nod v69 H68 fun v70 H71 =>
 K38 [(l53.getD 0 .junk), (l53.getD 1 .junk), (l53.getD 2 .junk), (l53.getD 3 .junk), (l53.getD 4 .junk)] H71)
 (fun R55 =>
 C.aFA 2 1 false (l39.getD 3 .junk).nod fun v72 =>
 C.aLd 1 false false v72.nod H52 fun v73 H74 =>
 aCond v73.nod (
 C.aFA 0 1 false v49.nod fun v75 =>
 C.aLd 1 false false v75.nod H74 fun v76 H77 =>
 C.aLd 1 false false (l39.getD 2 .junk).nod H77 fun v78 H79 =>
 C.aIx 2 v78.nod (I 0) fun v80 =>
 C.aFA 0 1 false v80.nod fun v81 =>
 C.aLd 1 false false v81.nod H79 fun v82 H83 =>
 C.aFA 0 1 false (l39.getD 3 .junk).nod fun v84 =>
 C.aLd 1 false false v84.nod H83 fun v85 H86 =>
 C.aBin (Try.prog.underlying 3) .sub v82.nod v85.nod fun v87 =>
 C.aBin (Try.prog.underlying 3) .add v76.nod v87.nod fun v88 =>
 C.aFA 0 1 false v49.nod fun v89 =>
 C.aSt 1 v89.nod v88 H86 fun v90 H91 =>
 R55 [(l39.getD 0 .junk), (l39.getD 1 .junk), (l39.getD 2 .junk), (l39.getD 3 .junk), (l39.getD 4 .junk), v49] H91) (
 R55 [(l39.getD 0 .junk), (l39.getD 1 .junk), (l39.getD 2 .junk), (l39.getD 3 .junk), (l39.getD 4 .junk), v49] H74)))
 (fun R41 =>
 C.aLd 1 false false (l36.getD 2 .junk).nod H37 fun v92 H93 =>
 C.aLen v92.nod fun v94 =>
 C.aBin (Try.prog.underlying 3) .gtr v94.nod (I 0) fun v95 =>
 Jv (fun v96 H97 =>
 aCond v96.nod (
 R41 [(l36.getD 0 .junk), (l36.getD 1 .junk), (l36.getD 2 .junk), (l36.getD 3 .junk), (l36.getD 4 .junk)] H97) (
 Jn (fun l109 H110 =>
 aCond (l109.getD 3 .junk).nod (
 C.aFA 2 1 false (l109.getD 1 .junk).nod fun v112 =>
 C.aLd 1 false true v112.nod H110 fun v113 H114 =>
 C.aFA 2 1 false (l109.getD 0 .junk).nod fun v115 =>
 C.aLd 1 false false v115.nod H114 fun v116 H117 =>
 C.aFA 0 1 false (l109.getD 2 .junk).nod fun v118 =>
 C.aLd 1 false false v118.nod H117 fun v119 H120 =>
 C.aFA 1 1 false (l109.getD 2 .junk).nod fun v121 =>
 C.aLd 1 false false v121.nod H120 fun v122 H123 =>
 C.aSlc 1 v116.nod (some v119.nod) (some v122.nod) none fun v124 =>
 C.aAppS 1 8 v113 v124.nod H123 fun v125 H126 =>
 C.aFA 2 1 false (l109.getD 1 .junk).nod fun v127 =>
 C.aSt 1 v127.nod v125 H126 fun v128 H129 =>
 K26 false H129) (
 K26 false H110))
 (fun R111 =>
 C.aFA 2 1 false (l36.getD 3 .junk).nod fun v130 =>
 C.aLd 1 false false v130.nod H97 fun v131 H132 =>
 R111 [(l36.getD 0 .junk), (l36.getD 1 .junk), (l36.getD 3 .junk), v131] H132)))
 (fun R98 =>
 aG v95.nod true (
 C.aLd 1 false false (l36.getD 2 .junk).nod H93 fun v99 H100 =>
 C.aIx 2 v99.nod (I 0) fun v101 =>
 C.aFA 0 1 false v101.nod fun v102 =>
 C.aLd 1 false false v102.nod H100 fun v103 H104 =>
 C.aFA 1 1 false (l36.getD 3 .junk).nod fun v105 =>
 C.aLd 1 false false v105.nod H104 fun v106 H107 =>
 C.aBin (Try.prog.underlying 3) .lss v103.nod v106.nod fun v108 =>
 R98 v108.nod H107) (
 R98 (B false) H93))))
 [(l7.getD 0 .junk).nod, (l7.getD 3 .junk).nod, v13.nod, v30, v35] H34) (fun H28 =>
 C.aLd 1 false false v13.nod.nod H28 fun v133 H134 =>
 C.aLen v133.nod fun v135 =>
 LoopA (fun l136 H137 K138 =>
 C.aBin (Try.prog.underlying 3) .lss (l136.getD 4 .junk).nod (l136.getD 3 .junk).nod fun v139 =>
 aCond v139.nod (
 C.aIx 2 (l136.getD 2 .junk).nod (l136.getD 4 .junk).nod fun v140 =>
 C.aLd 2 true false v140.nod H137 fun v141 H142 =>
 C.aBx true 2 v141.nod H142 fun v143 H144 =>
 C.aFA 4 1 false (l136.getD 1 .junk).nod fun v145 =>
 C.aLd 1 false true v145.nod H144 fun v146 H147 =>
 C.aFA 2 1 false (l136.getD 1 .junk).nod fun v148 =>
 C.aLd 1 false false v148.nod H147 fun v149 H150 =>
 C.aLen v149.nod fun v151 =>
 C.aFA 1 1 false v143.nod fun v152 =>
 C.aLd 1 false false v152.nod H150 fun v153 H154 =>
 C.aBd [(I 0), (V.imm (.string (ByteArray.mk #[])))] [(0, 1, v151.nod), (1, 1, v153.nod.nod)] fun v155 =>
 C.aBS 2 1 (V.agg [(I 0), (V.imm (.string (ByteArray.mk #[])))]) [(0, (own0 v155 v151).nod)] fun v156 =>
 C.aAppS 2 24 v146 v156.nod H154 fun v157 H158 =>
 C.aFA 4 1 false (l136.getD 1 .junk).nod fun v159 =>
 C.aSt 1 v159.nod v157 H158 fun v160 H161 =>
 C.aBin (Try.prog.underlying 3) .add (l136.getD 4 .junk).nod (I 1) fun v162 =>
 K138 [(l136.getD 0 .junk), (l136.getD 1 .junk), (l136.getD 2 .junk), (l136.getD 3 .junk), v162.nod] H161) (
 C.aLd 6 true false (l136.getD 1 .junk).nod H137 fun v163 H164 =>
 C.aSt 6 (l136.getD 0 .junk).nod v163 H164 fun v165 H166 =>
 C.aRes 6 true (l136.getD 0 .junk) H166 fun v167 =>
 R [v167] H166))
 [(l7.getD 2 .junk).nod, (l7.getD 3 .junk).nod, v133, v135, (I 0)] H134) (fun H29 =>
 C.aRes 6 true (l7.getD 2 .junk).nod H29 fun v168 =>
 R [v168] H29))
 (fun R9 =>
 C.aFA 0 1 false v1.nod fun v169 =>
 C.aLd 1 false false v169.nod H6 fun v170 H171 =>
 C.aFA 1 1 false v1.nod fun v172 =>
 C.aLd 1 false false v172.nod H171 fun v173 H174 =>
 C.aFA 5 1 false v1.nod fun v175 =>
 C.aLd 1 false false v175.nod H174 fun v176 H177 =>
 C.aBd [(I 0), (I 0), (V.arr [] .full), (V.arr [] .full), (V.arr [] .full), (I 0)] [(0, 1, v170.nod), (1, 1, v173.nod.nod), (5, 1, v176.nod.nod)] fun v178 =>
 C.aBx false 6 (V.agg [(I 0), (I 0), (V.arr [] .full), (V.arr [] .full), (V.arr [] .full), (I 0)]) H177 fun v179 H180 =>
 C.aSt 6 v179.nod (own0 v178 v170) H180 fun v181 H182 =>
 R9 [v1, v3, v5, v179] H182)
theorem wf54 : (Nat.ble 2 Try.f54.ntmps && wfC an54 Try.f54.ntmps (Try.f54.body.getD .skip)) = true := by kernel_rfl
theorem tie54 (C : Cb) (a0 a1 : V) (H : Hp) (R : List V → Hp → Prop) : wpG Try.prog C an54 (Try.f54.body.getD .skip) (argF [a0, a1]) H (retG Try.prog C Try.f54 R) (fun _ _ _ => False) (retG Try.prog C Try.f54 R) = vc54 C a0 a1 H R := by kernel_rfl
theorem mkE54 (a0 a1 : V) {H : Hp} {Q : V → Hp → Prop} (h : vc54 (real Try.prog) a0 a1 H (retW Q)) : RetE Try.prog 54 [a0, a1] H Q :=
 retE_mk (an := an54) hm Try.call54 Try.func54 rfl wf54 (Eq.mpr (tie54 (real Try.prog) a0 a1 H (retW Q)) h)
def an60 : An := { imm := [], jn := [(3, [0, 1, 5]), (4, [0, 1, 5]), (5, [0])], lp := [], loud := [24, 40], ord := [] }
def vc60 (C : Cb) (a0 a1 a2 : V) (H : Hp) (R : List V → Hp → Prop) : Prop :=
 C.aBx false 6 a2.nod H fun v1 H2 =>
 Jn (fun l3 H4 =>
 Jn (fun l6 H7 =>
 Jn (fun l9 H10 =>
 C.aNC (l9.getD 0 .junk).nod.nod fun v12 =>
 C.aFA 2 1 false v12.nod fun v13 =>
 C.aLd 1 false false v13.nod H10 fun v14 H15 =>
 C.aBin (Try.prog.underlying 3) .add v14.nod (I 1) fun v16 =>
 C.aNC (l9.getD 0 .junk).nod.nod fun v17 =>
 C.aFA 2 1 false v17.nod fun v18 =>
 C.aSt 1 v18.nod v16 H15 fun v19 H20 =>
 C.aNC (l9.getD 0 .junk).nod.nod fun v21 =>
 C.aFA 2 1 false v21.nod fun v22 =>
 C.aLd 1 false false v22.nod H20 fun v23 H24 =>
 C.aBin (Try.prog.underlying 3) .sub v23.nod (I 1) fun v25 =>
 R [v25, (I 0)] H24)
 (fun R11 =>
 C.aNC (l6.getD 0 .junk).nod.nod fun v26 =>
 C.aFA 1 1 false v26.nod fun v27 =>
 C.aLd 1 false false v27.nod H7 fun v28 H29 =>
 C.aLd 6 true false (l6.getD 2 .junk).nod H29 fun v30 H31 =>
 C.aNC (l6.getD 0 .junk).nod.nod fun v32 =>
 C.aFA 2 1 false v32.nod fun v33 =>
 C.aLd 1 false false v33.nod H31 fun v34 H35 =>
 C.aBd [(I 0), (I 0), (V.arr [] .full), (V.arr [] .full), (V.arr [] .full), (I 0), (I 0), (I 0)] [(0, 6, v30.nod), (6, 1, v34.nod.nod)] fun v36 =>
 C.aBx false 8 v36.nod H35 fun v37 H38 =>
 C.call 95 [v28.nod, (l6.getD 1 .junk).nod.nod, v37.nod] H38 fun v39 H40 =>
 R11 [(l6.getD 0 .junk)] H40))
 (fun R8 =>
 C.aFA 2 1 false (l3.getD 2 .junk).nod fun v41 =>
 C.aLd 1 false false v41.nod H4 fun v42 H43 =>
 C.calm 93 [v42.nod] H43 fun v44 =>
 C.aFA 3 1 false (l3.getD 2 .junk).nod fun v45 =>
 C.aLd 1 false false v45.nod H43 fun v46 H47 =>
 C.calm 93 [v46.nod] H47 fun v48 =>
 C.aFA 4 1 false (l3.getD 2 .junk).nod fun v49 =>
 C.aLd 1 false false v49.nod H47 fun v50 H51 =>
 C.call 94 [v50.nod] H51 fun v52 H53 =>
 C.aFA 2 1 false (l3.getD 2 .junk).nod fun v54 =>
 C.aSt 1 v54.nod v44 H53 fun v55 H56 =>
 C.aFA 3 1 false (l3.getD 2 .junk).nod fun v57 =>
 C.aSt 1 v57.nod v48 H56 fun v58 H59 =>
 C.aFA 4 1 false (l3.getD 2 .junk).nod fun v60 =>
 C.aSt 1 v60.nod v52 H59 fun v61 H62 =>
 R8 [(l3.getD 0 .junk), (l3.getD 1 .junk), (l3.getD 2 .junk)] H62))
 (fun R5 =>
 C.aNC a0.nod.nod fun v63 =>
 C.aFA 1 1 false v63.nod fun v64 =>
 C.aLd 1 false false v64.nod H2 fun v65 H66 =>
 C.aNC v65.nod fun v67 =>
 C.aFA 1 1 false v67.nod fun v68 =>
 C.aLd 1 false false v68.nod H66 fun v69 H70 =>
 C.aBin (Try.prog.underlying 3) .geq v69.nod (I 200) fun v71 =>
 aCond v71.nod (
 R [(I 0), (I 4)] H70) (
 R5 [a0, a1, v1] H70))
theorem wf60 : (Nat.ble 3 Try.f60.ntmps && wfC an60 Try.f60.ntmps (Try.f60.body.getD .skip)) = true := by kernel_rfl
theorem tie60 (C : Cb) (a0 a1 a2 : V) (H : Hp) (R : List V → Hp → Prop) : wpG Try.prog C an60 (Try.f60.body.getD .skip) (argF [a0, a1, a2]) H (retG Try.prog C Try.f60 R) (fun _ _ _ => False) (retG Try.prog C Try.f60 R) = vc60 C a0 a1 a2 H R := by kernel_rfl
theorem mkE60 (a0 a1 a2 : V) {H : Hp} {Q : V → Hp → Prop} (h : vc60 (real Try.prog) a0 a1 a2 H (retW Q)) : RetE Try.prog 60 [a0, a1, a2] H Q :=
 retE_mk (an := an60) hm Try.call60 Try.func60 rfl wf60 (Eq.mpr (tie60 (real Try.prog) a0 a1 a2 H (retW Q)) h)
def an62 : An := { imm := [2], jn := [], lp := [], loud := [], ord := [] }
def vc62 (C : Cb) (a0 a1 : V) (H : Hp) (R : List V → Hp → Prop) : Prop :=
 C.aBx true 4 a0.nod H fun v1 H2 =>
 C.aLd 1 false true a1.nod H2 fun v3 H4 =>
 C.aLd 4 true false v1.nod H4 fun v5 H6 =>
 C.aBS 4 1 (V.agg [(I 0), (I 0), (I 0), (V.imm (.string (ByteArray.mk #[])))]) [(0, v5.nod)] fun v7 =>
 C.aApp 4 40 v3 v7.nod fun v8 =>
 C.aSt 1 a1.nod v8 H6 fun v9 H10 =>
 R [] H10
theorem wf62 : (Nat.ble 2 Try.f62.ntmps && wfC an62 Try.f62.ntmps (Try.f62.body.getD .skip)) = true := by kernel_rfl
theorem tie62 (C : Cb) (a0 a1 : V) (H : Hp) (R : List V → Hp → Prop) : wpG Try.prog C an62 (Try.f62.body.getD .skip) (argF [a0, a1]) H (retG Try.prog C Try.f62 R) (fun _ _ _ => False) (retG Try.prog C Try.f62 R) = vc62 C a0 a1 H R := by kernel_rfl
theorem mkE62 (a0 a1 : V) {H : Hp} {Q : V → Hp → Prop} (h : vc62 (real Try.prog) a0 a1 H (retW Q)) : RetE Try.prog 62 [a0, a1] H Q :=
 retE_mk (an := an62) hm Try.call62 Try.func62 rfl wf62 (Eq.mpr (tie62 (real Try.prog) a0 a1 H (retW Q)) h)
def an66 : An := { imm := [7], jn := [(5, [0, 1, 5, 6]), (6, [0, 1, 5, 6]), (9, [0, 1, 5, 6, 7, 29])], lp := [(5, [0, 1, 5, 6])], loud := [], ord := [] }
def vc66 (C : Cb) (a0 a1 : V) (H : Hp) (R : List V → Hp → Prop) : Prop :=
 C.callE 98 [a0.nod.nod, a1.nod.nod] H fun v1 H2 =>
 C.aBin (Try.prog.underlying 3) .eql v1.nod.nod (I (-1)) fun v3 =>
 aCond v3.nod (
 R [a0.nod] H2) (
 Jn (fun l4 H5 =>
 LoopA (fun l7 H8 K9 =>
 C.aLen (l7.getD 0 .junk).nod.nod fun v10 =>
 C.aBin (Try.prog.underlying 3) .lss (l7.getD 3 .junk).nod.nod v10.nod fun v11 =>
 aCond v11.nod (
 Jn (fun l12 H13 =>
 C.aBin (Try.prog.underlying 3) .add (l12.getD 3 .junk).nod.nod (I 1) fun v15 =>
 K9 [(l12.getD 0 .junk), (l12.getD 1 .junk), (l12.getD 2 .junk), v15] H13)
 (fun R14 =>
 C.aIx 2 (l7.getD 0 .junk).nod.nod (l7.getD 3 .junk).nod.nod fun v16 =>
 C.aLd 2 true false v16.nod H8 fun v17 H18 =>
 C.aBx true 2 v17.nod H18 fun v19 H20 =>
 Jn (fun l21 H22 =>
 aCond (l21.getD 5 .junk).nod (
 C.aLd 2 true false (l21.getD 4 .junk).nod H22 fun v24 H25 =>
 C.aIx 2 (l21.getD 0 .junk).nod.nod (l21.getD 2 .junk).nod.nod fun v26 =>
 C.aSt 2 v26.nod v24 H25 fun v27 H28 =>
 C.aBin (Try.prog.underlying 3) .add (l21.getD 2 .junk).nod.nod (I 1) fun v29 =>
 R14 [(l21.getD 0 .junk), (l21.getD 1 .junk), v29, (l21.getD 3 .junk)] H28) (
 R14 [(l21.getD 0 .junk), (l21.getD 1 .junk), (l21.getD 2 .junk), (l21.getD 3 .junk)] H22))
 (fun R23 =>
 C.aLd 2 true false v19.nod H20 fun v30 H31 =>
 aCallEG C (l7.getD 1 .junk).nod.nod [v30.nod] H31 fun v32 H33 =>
 C.aUn .not v32.nod fun v34 =>
 R23 [(l7.getD 0 .junk), (l7.getD 1 .junk), (l7.getD 2 .junk), (l7.getD 3 .junk), v19, v34] H33))) (
 C.aSlc 2 (l7.getD 0 .junk).nod.nod (some (l7.getD 2 .junk).nod.nod) none none fun v35 =>
 C.aClr (V.agg [(I 0), (V.imm (.string (ByteArray.mk #[])))]) 2 v35.nod H8 fun v36 H37 =>
 C.aSlc 2 (l7.getD 0 .junk).nod.nod none (some (l7.getD 2 .junk).nod.nod) none fun v38 =>
 R [v38] H37))
 [(l4.getD 0 .junk), (l4.getD 1 .junk), (l4.getD 2 .junk), (l4.getD 3 .junk)] H5)
 (fun R6 =>
 C.aBin (Try.prog.underlying 3) .add v1.nod.nod (I 1) fun v39 =>
 R6 [a0, a1, v1, v39] H2))
theorem wf66 : (Nat.ble 2 Try.f66.ntmps && wfC an66 Try.f66.ntmps (Try.f66.body.getD .skip)) = true := by kernel_rfl
theorem tie66 (C : Cb) (a0 a1 : V) (H : Hp) (R : List V → Hp → Prop) : wpG Try.prog C an66 (Try.f66.body.getD .skip) (argF [a0, a1]) H (retG Try.prog C Try.f66 R) (fun _ _ _ => False) (retG Try.prog C Try.f66 R) = vc66 C a0 a1 H R := by kernel_rfl
theorem mkE66 (a0 a1 : V) {H : Hp} {Q : V → Hp → Prop} (h : vc66 (real Try.prog) a0 a1 H (retW Q)) : RetE Try.prog 66 [a0, a1] H Q :=
 retE_mk (an := an66) hm Try.call66 Try.func66 rfl wf66 (Eq.mpr (tie66 (real Try.prog) a0 a1 H (retW Q)) h)
def an67 : An := { imm := [3], jn := [], lp := [], loud := [], ord := [] }
def vc67 (C : Cb) (a0 a1 a2 : V) (H : Hp) (R : List V → Hp → Prop) : Prop :=
 C.aBx true 2 a0.nod H fun v1 H2 =>
 C.aFA 0 1 false v1.nod fun v3 =>
 C.aLd 1 false false v3.nod H2 fun v4 H5 =>
 C.aLd 1 false false a1.nod H5 fun v6 H7 =>
 C.aNC v6.nod fun v8 =>
 C.aFA 8 1 false v8.nod fun v9 =>
 C.aLd 1 false false v9.nod H7 fun v10 H11 =>
 C.aLd 1 false false a2.nod H11 fun v12 H13 =>
 C.aBin (Try.prog.underlying 3) .add v10.nod v12.nod fun v14 =>
 C.aBin (Try.prog.underlying 3) .geq v4.nod v14.nod fun v15 =>
 R [v15] H13
theorem wf67 : (Nat.ble 3 Try.f67.ntmps && wfC an67 Try.f67.ntmps (Try.f67.body.getD .skip)) = true := by kernel_rfl
theorem tie67 (C : Cb) (a0 a1 a2 : V) (H : Hp) (R : List V → Hp → Prop) : wpG Try.prog C an67 (Try.f67.body.getD .skip) (argF [a0, a1, a2]) H (retG Try.prog C Try.f67 R) (fun _ _ _ => False) (retG Try.prog C Try.f67 R) = vc67 C a0 a1 a2 H R := by kernel_rfl
theorem mk67 (a0 a1 a2 : V) {H : Hp} {v : V} {H1 : Hp} (hd : v.Nd) (hn : H.length ≤ H1.length) (hb : H1 = H ∨ ∀ (b : Nat) (blk : Blk), H1[b]? = some blk → H[b]? = some blk ∨ BelB H1.length blk) (h : vc67 (real Try.prog) a0 a1 a2 H (retF v H1)) : Ret Try.prog 67 [a0, a1, a2] H v H1 :=
 ret_mk (an := an67) hm Try.call67 Try.func67 rfl wf67 hd hn hb (Eq.mpr (tie67 (real Try.prog) a0 a1 a2 H (retF v H1)) h)
def an81 : An := { imm := [], jn := [(3, [1])], lp := [], loud := [], ord := [] }
def vc81 (C : Cb) (H : Hp) (R : List V → Hp → Prop) : Prop :=
 C.aBd [(V.imm (.pointer none)), (V.imm (.pointer none)), (V.imm (.pointer none))] [] fun v1 =>
 C.aBx false 3 v1.nod H fun v2 H3 =>
 Jn (fun l4 H5 =>
 C.aBd [(V.imm (.pointer none)), (I 0)] [(0, 1, (l4.getD 0 .junk).nod.nod)] fun v7 =>
 C.aBx false 2 (own0 v7 (l4.getD 0 .junk).nod).nod H5 fun v8 H9 =>
 R [v8] H9)
 (fun R6 =>
 C.aNC v2.nod.nod fun v10 =>
 C.aFA 1 1 false v10.nod fun v11 =>
 C.aSt 1 v11.nod v2.nod H3 fun v12 H13 =>
 C.aNC v2.nod.nod fun v14 =>
 C.aFA 2 1 false v14.nod fun v15 =>
 C.aSt 1 v15.nod v2.nod H13 fun v16 H17 =>
 R6 [v2] H17)
theorem wf81 : (Nat.ble 0 Try.f81.ntmps && wfC an81 Try.f81.ntmps (Try.f81.body.getD .skip)) = true := by kernel_rfl
theorem tie81 (C : Cb) (H : Hp) (R : List V → Hp → Prop) : wpG Try.prog C an81 (Try.f81.body.getD .skip) (argF []) H (retG Try.prog C Try.f81 R) (fun _ _ _ => False) (retG Try.prog C Try.f81 R) = vc81 C H R := by kernel_rfl
theorem mkE81 {H : Hp} {Q : V → Hp → Prop} (h : vc81 (real Try.prog) H (retW Q)) : RetE Try.prog 81 [] H Q :=
 retE_mk (an := an81) hm Try.call81 Try.func81 rfl wf81 (Eq.mpr (tie81 (real Try.prog) H (retW Q)) h)
def an83 : An := { imm := [], jn := [(1, [0])], lp := [], loud := [], ord := [] }
def vc83 (C : Cb) (a0 a1 : V) (H : Hp) (R : List V → Hp → Prop) : Prop :=
 Jn (fun l1 H2 =>
 C.aNC (l1.getD 0 .junk).nod.nod fun v4 =>
 C.aFA 1 1 false v4.nod fun v5 =>
 C.aLd 1 false false v5.nod H2 fun v6 H7 =>
 C.aBin (Try.prog.underlying 3) .sub v6.nod (I 1) fun v8 =>
 C.aNC (l1.getD 0 .junk).nod.nod fun v9 =>
 C.aFA 1 1 false v9.nod fun v10 =>
 C.aSt 1 v10.nod v8 H7 fun v11 H12 =>
 R [] H12)
 (fun R3 =>
 C.aNC a1.nod.nod fun v13 =>
 C.aFA 2 1 false v13.nod fun v14 =>
 C.aLd 1 false false v14.nod H fun v15 H16 =>
 C.aNC a1.nod.nod fun v17 =>
 C.aFA 1 1 false v17.nod fun v18 =>
 C.aLd 1 false false v18.nod H16 fun v19 H20 =>
 C.aNC a1.nod.nod fun v21 =>
 C.aFA 1 1 false v21.nod fun v22 =>
 C.aLd 1 false false v22.nod H20 fun v23 H24 =>
 C.aNC a1.nod.nod fun v25 =>
 C.aFA 2 1 false v25.nod fun v26 =>
 C.aLd 1 false false v26.nod H24 fun v27 H28 =>
 C.aNC v15.nod fun v29 =>
 C.aFA 1 1 false v29.nod fun v30 =>
 C.aSt 1 v30.nod v23 H28 fun v31 H32 =>
 C.aNC v19.nod fun v33 =>
 C.aFA 2 1 false v33.nod fun v34 =>
 C.aSt 1 v34.nod v27 H32 fun v35 H36 =>
 R3 [a0] H36)
theorem wf83 : (Nat.ble 2 Try.f83.ntmps && wfC an83 Try.f83.ntmps (Try.f83.body.getD .skip)) = true := by kernel_rfl
theorem tie83 (C : Cb) (a0 a1 : V) (H : Hp) (R : List V → Hp → Prop) : wpG Try.prog C an83 (Try.f83.body.getD .skip) (argF [a0, a1]) H (retG Try.prog C Try.f83 R) (fun _ _ _ => False) (retG Try.prog C Try.f83 R) = vc83 C a0 a1 H R := by kernel_rfl
theorem mkE83 (a0 a1 : V) {H : Hp} {Q : V → Hp → Prop} (h : vc83 (real Try.prog) a0 a1 H (retW Q)) : RetE Try.prog 83 [a0, a1] H Q :=
 retE_mk (an := an83) hm Try.call83 Try.func83 rfl wf83 (Eq.mpr (tie83 (real Try.prog) a0 a1 H (retW Q)) h)
def an23 : An := { imm := [], jn := [(6, [0, 1, 22]), (7, [0, 1]), (12, [0, 7, 8, 9, 10, 36, 37]), (21, [0, 7, 8, 9, 10, 36, 37]), (24, [7, 8])], lp := [(12, [0, 7, 8, 9, 10, 36, 37]), (14, [0, 7, 8, 9, 10, 11, 36, 37]), (17, [0, 7, 8, 9, 10, 11, 36, 37, 40, 41, 42])], loud := [], ord := [] }
def vc23 (C : Cb) (a0 a1 : V) (H : Hp) (R : List V → Hp → Prop) : Prop :=
 Jn (fun l1 H2 =>
 C.aBx false 1 (V.arr [] .full) H2 fun v4 H5 =>
 C.aBS 1 2 (V.imm .nilFunc) [(0, (V.bfn 63 [(l1.getD 0 .junk).nod.nod]).nod), (1, (V.bfn 64 [(l1.getD 0 .junk).nod.nod]).nod)] fun v6 =>
 Jn (fun l7 H8 =>
 C.aLd 1 false false (l7.getD 1 .junk).nod H8 fun v10 H11 =>
 R [(l7.getD 0 .junk).nod, v10, (I 0)] H11)
 (fun R9 =>
 Jn (fun l12 H13 =>
 LoopA (fun l15 H16 K17 =>
 C.aBin (Try.prog.underlying 3) .lss (l15.getD 6 .junk).nod (l15.getD 5 .junk).nod fun v18 =>
 aCond v18.nod (
 Jn (fun l19 H20 =>
 C.callE 65 [(l19.getD 0 .junk).nod.nod, (l19.getD 3 .junk).nod.nod] H20 fun v22 H23 =>
 C.aBS 1 1 (I 0) [(0, v22.nod)] fun v24 =>
 C.aApp 1 8 (l19.getD 1 .junk) v24.nod fun v25 =>
 C.aNC (l19.getD 0 .junk).nod.nod fun v26 =>
 C.aFA 5 1 false v26.nod fun v27 =>
 C.aLd 1 false false v27.nod H23 fun v28 H29 =>
 C.aBin (Try.prog.underlying 3) .add v28.nod (I 1) fun v30 =>
 C.aNC (l19.getD 0 .junk).nod.nod fun v31 =>
 C.aFA 5 1 false v31.nod fun v32 =>
 C.aSt 1 v32.nod v30 H29 fun v33 H34 =>
 C.aBin (Try.prog.underlying 3) .add (l19.getD 6 .junk).nod (I 1) fun v35 =>
 K17 [(l19.getD 0 .junk), v25, (l19.getD 2 .junk), (l19.getD 3 .junk), (l19.getD 4 .junk), (l19.getD 5 .junk), v35.nod] H34)
 (fun R21 =>
 LoopA (fun l36 H37 K38 =>
 aCond (l36.getD 5 .junk).nod.nod (
 C.aLen (l36.getD 4 .junk).nod.nod fun v39 =>
 LoopA (fun l40 H41 K42 =>
 C.aBin (Try.prog.underlying 3) .lss (l40.getD 10 .junk).nod (l40.getD 9 .junk).nod fun v43 =>
 aCond v43.nod (
 C.aIx 1 (l40.getD 8 .junk).nod (l40.getD 10 .junk).nod fun v44 =>
 C.aLd 1 false false v44.nod H41 fun v45 H46 =>
 aCallEG C v45.nod.nod [(l40.getD 3 .junk).nod.nod] H46 fun v47 H48 =>
 Jv (fun v49 H50 =>
 C.aBin (Try.prog.underlying 3) .add (l40.getD 10 .junk).nod (I 1) fun v52 =>
 K42 [(l40.getD 0 .junk), (l40.getD 1 .junk), (l40.getD 2 .junk), (l40.getD 3 .junk), (l40.getD 4 .junk), v49, (l40.getD 6 .junk), (l40.getD 7 .junk), (l40.getD 8 .junk), (l40.getD 9 .junk), v52.nod] H50)
 (fun R51 =>
 aG v47.nod false (
 R51 (l40.getD 5 .junk).nod.nod H48) (
 R51 (B true) H48))) (
 K38 [(l40.getD 0 .junk), (l40.getD 1 .junk), (l40.getD 2 .junk), (l40.getD 3 .junk), (l40.getD 4 .junk), (l40.getD 5 .junk), (l40.getD 6 .junk), (l40.getD 7 .junk)] H41))
 [(l36.getD 0 .junk), (l36.getD 1 .junk), (l36.getD 2 .junk), (l36.getD 3 .junk), (l36.getD 4 .junk), (B false), (l36.getD 6 .junk), (l36.getD 7 .junk), (l36.getD 4 .junk).nod, v39, (I 0)] H37) (
 R21 [(l36.getD 0 .junk), (l36.getD 1 .junk), (l36.getD 2 .junk), (l36.getD 3 .junk), (l36.getD 4 .junk), (l36.getD 6 .junk), (l36.getD 7 .junk)] H37))
 [(l15.getD 0 .junk), (l15.getD 1 .junk), (l15.getD 2 .junk), (l15.getD 3 .junk), (l15.getD 4 .junk), (B true), (l15.getD 5 .junk), (l15.getD 6 .junk)] H16)) (
 R9 [(l15.getD 1 .junk), (l15.getD 2 .junk)] H16))
 [(l12.getD 0 .junk), (l12.getD 1 .junk), (l12.getD 2 .junk), (l12.getD 3 .junk), (l12.getD 4 .junk), (l12.getD 5 .junk), (l12.getD 6 .junk)] H13)
 (fun R14 =>
 R14 [(l1.getD 0 .junk), (V.arr [] .full), v4, (V.fn 62 [v4.nod]), v6, (l1.getD 1 .junk).nod, (I 0)] H5)))
 (fun R3 =>
 C.callE 59 [a0.nod.nod] H fun v53 H54 =>
 C.aUn .not v53.nod fun v55 =>
 aCond v55.nod (
 R [(V.arr [] .full), (V.arr [] .full), (I 1)] H54) (
 C.callE 61 [a1.nod.nod, (I 0), (I 100000)] H54 fun v56 H57 =>
 C.aUn .not v56.nod fun v58 =>
 aCond v58.nod (
 R [(V.arr [] .full), (V.arr [] .full), (I 2)] H57) (
 Jn (fun l59 H60 =>
 aCond (l59.getD 2 .junk).nod (
 R [(V.arr [] .full), (V.arr [] .full), (I 4)] H60) (
 R3 [(l59.getD 0 .junk), (l59.getD 1 .junk)] H60))
 (fun R61 =>
 C.aNC a0.nod.nod fun v62 =>
 C.aFA 5 1 false v62.nod fun v63 =>
 C.aLd 1 false false v63.nod H57 fun v64 H65 =>
 C.aBin (Try.prog.underlying 3) .add v64.nod a1.nod.nod fun v66 =>
 C.aBin (Try.prog.underlying 3) .gtr v66.nod (I 1099511627776) fun v67 =>
 R61 [a0, a1, v67] H65))))
theorem wf23 : (Nat.ble 2 Try.f23.ntmps && wfC an23 Try.f23.ntmps (Try.f23.body.getD .skip)) = true := by kernel_rfl
theorem tie23 (C : Cb) (a0 a1 : V) (H : Hp) (R : List V → Hp → Prop) : wpG Try.prog C an23 (Try.f23.body.getD .skip) (argF [a0, a1]) H (retG Try.prog C Try.f23 R) (fun _ _ _ => False) (retG Try.prog C Try.f23 R) = vc23 C a0 a1 H R := by kernel_rfl
theorem mkE23 (a0 a1 : V) {H : Hp} {Q : V → Hp → Prop} (h : vc23 (real Try.prog) a0 a1 H (retW Q)) : RetE Try.prog 23 [a0, a1] H Q :=
 retE_mk (an := an23) hm Try.call23 Try.func23 rfl wf23 (Eq.mpr (tie23 (real Try.prog) a0 a1 H (retW Q)) h)
def an63 : An := { imm := [], jn := [(2, [0, 1, 5]), (3, [0, 1, 5, 53]), (6, [0, 1, 6]), (7, [0, 1, 6, 7]), (8, [0, 1, 6, 7, 9]), (12, [0, 7])], lp := [], loud := [34, 72, 106], ord := [(6, [(8, 12)], [[0, 1, 2, 3, 4, 5, 6, 7, 9, 10, 11, 12, 8, 13, 14, 15], [0, 1, 2, 3, 4, 5, 6, 7, 8, 9, 10, 11, 12, 13, 14, 15]])] }
def vc63 (C : Cb) (a0 a1 : V) (H : Hp) (R : List V → Hp → Prop) : Prop :=
 Jn (fun l1 H2 =>
 Jn (fun l4 H5 =>
 aCond (l4.getD 3 .junk).nod (
 R [(B false)] H5) (
 C.aNC (l4.getD 0 .junk).nod.nod fun v7 =>
 C.aFA 1 1 false v7.nod fun v8 =>
 C.aLd 1 false false v8.nod H5 fun v9 H10 =>
 C.callE 83 [v9.nod, (l4.getD 2 .junk).nod.nod] H10 fun v11 H12 =>
 Jn (fun l13 H14 =>
 Jn (fun l16 H17 =>
 Jn (fun l19 H20 =>
 C.aBin (Try.prog.underlying 30) .neq (l19.getD 4 .junk).nod.nod (I 0) fun v22 =>
 aCond v22.nod (
 C.callE 96 [(l19.getD 0 .junk).nod.nod, (I 4), (l19.getD 2 .junk).nod.nod, (V.imm (.string (ByteArray.mk #[])))] H20 fun v23 H24 =>
 aCallEG C (l19.getD 1 .junk).nod.nod [v23.nod] H24 fun v25 H26 =>
 R [(B true)] H26) (
 Jn (fun l27 H28 =>
 C.aNC (l27.getD 0 .junk).nod.nod fun v30 =>
 C.aFA 6 1 false v30.nod fun v31 =>
 C.aSt 1 v31.nod (I 1) H28 fun v32 H33 =>
 C.aNC (l27.getD 0 .junk).nod.nod fun v34 =>
 C.aFA 7 1 false v34.nod fun v35 =>
 C.aSt 1 v35.nod (l27.getD 1 .junk).nod H33 fun v36 H37 =>
 C.aNC (l27.getD 0 .junk).nod.nod fun v38 =>
 C.aFA 8 1 false v38.nod fun v39 =>
 C.aSt 1 v39.nod (I 0) H37 fun v40 H41 =>
 R [(B true)] H41)
 (fun R29 =>
 C.callE 96 [(l19.getD 0 .junk).nod.nod, (I 1), (l19.getD 2 .junk).nod.nod, (V.imm (.string (ByteArray.mk #[])))] H20 fun v42 H43 =>
 aCallEG C (l19.getD 1 .junk).nod.nod [v42.nod] H43 fun v44 H45 =>
 R29 [(l19.getD 0 .junk), (l19.getD 3 .junk)] H45)))
 (fun R21 =>
 C.aNC (l16.getD 0 .junk).nod.nod fun v46 =>
 C.aFA 0 1 false v46.nod fun v47 =>
 C.aLd 1 false false v47.nod H17 fun v48 H49 =>
 C.aNC (l16.getD 2 .junk).nod.nod fun v50 =>
 C.aFA 0 6 true v50.nod fun v51 =>
 C.aFA 0 1 false v51.nod fun v52 =>
 C.aLd 1 false false v52.nod H49 fun v53 H54 =>
 C.aNC (l16.getD 2 .junk).nod.nod fun v55 =>
 C.aFA 0 6 true v55.nod fun v56 =>
 C.aFA 1 1 false v56.nod fun v57 =>
 C.aLd 1 false false v57.nod H54 fun v58 H59 =>
 C.aNC (l16.getD 3 .junk).nod.nod fun v60 =>
 C.aFA 0 6 true v60.nod fun v61 =>
 C.aFA 2 1 false v61.nod fun v62 =>
 C.aLd 1 false false v62.nod H59 fun v63 H64 =>
 C.aLen v63.nod fun v65 =>
 C.aNC (l16.getD 0 .junk).nod.nod fun v66 =>
 C.aFA 5 1 false v66.nod fun v67 =>
 C.aLd 1 false false v67.nod H64 fun v68 H69 =>
 C.aNC v48.nod fun v70 =>
 C.inv "Take" v48.nod.nod [v53.nod, v58.nod, v65.nod, v68.nod] H69 fun v71 H72 =>
 C.aExt 0 v71.nod.nod fun v73 =>
 C.aExt 1 v71.nod.nod fun v74 =>
 R21 [(l16.getD 0 .junk), (l16.getD 1 .junk), (l16.getD 2 .junk), (l16.getD 3 .junk), v74] H72))
 (fun R18 =>
 (C.aNC (l13.getD 2 .junk).nod.nod fun v75 =>
 C.aFA 0 6 true v75.nod fun v76 =>
 C.aLd 6 true false v76.nod H14 fun v77 H78 =>
 C.aNC (l13.getD 0 .junk).nod.nod fun v79 =>
 C.aFA 3 2 true v79.nod fun v80 =>
 C.aLd 2 true false v80.nod H78 fun v81 H82 =>
 C.aNC (l13.getD 2 .junk).nod.nod fun v83 =>
 C.aFA 6 1 false v83.nod fun v84 =>
 C.aLd 1 false false v84.nod H82 fun v85 H86 =>
 C.call 54 [v77.nod, v81.nod] H86 fun v87 H88 =>
 C.aBd [(I 0), (I 0), (V.arr [] .full), (V.arr [] .full), (V.arr [] .full), (I 0), (I 0), (I 0)] [(0, 6, v87.nod), (6, 1, v85.nod.nod)] fun v89 =>
 C.aBx false 8 v89.nod H88 fun v90 H91 =>
 R18 [(l13.getD 0 .junk), (l13.getD 1 .junk), (l13.getD 2 .junk), v90] H91) ∧ (C.aNC (l13.getD 2 .junk).nod.nod fun v92 =>
 C.aFA 0 6 true v92.nod fun v93 =>
 C.aLd 6 true false v93.nod H14 fun v94 H95 =>
 C.aNC (l13.getD 0 .junk).nod.nod fun v96 =>
 C.aFA 3 2 true v96.nod fun v97 =>
 C.aLd 2 true false v97.nod H95 fun v98 H99 =>
 C.call 54 [v94.nod, v98.nod] H99 fun v100 H101 =>
 C.aNC (l13.getD 2 .junk).nod.nod fun v102 =>
 C.aFA 6 1 false v102.nod fun v103 =>
 C.aLd 1 false false v103.nod H101 fun v104 H105 =>
 C.aBd [(I 0), (I 0), (V.arr [] .full), (V.arr [] .full), (V.arr [] .full), (I 0), (I 0), (I 0)] [(0, 6, v100.nod), (6, 1, v104.nod.nod)] fun v106 =>
 C.aBx false 8 v106.nod H105 fun v107 H108 =>
 R18 [(l13.getD 0 .junk), (l13.getD 1 .junk), (l13.getD 2 .junk), v107] H108)))
 (fun R15 =>
 C.aNC (l4.getD 2 .junk).nod.nod fun v109 =>
 C.aFA 0 1 false v109.nod fun v110 =>
 C.aLd 1 false false v110.nod H12 fun v111 H112 =>
 R15 [(l4.getD 0 .junk), (l4.getD 1 .junk), v111] H112)))
 (fun R6 =>
 C.aNC (l1.getD 0 .junk).nod.nod fun v113 =>
 C.aFA 6 1 false v113.nod fun v114 =>
 C.aLd 1 false false v114.nod H2 fun v115 H116 =>
 C.aBin (Try.prog.underlying 3) .neq v115.nod (I 0) fun v117 =>
 Jv (fun v118 H119 =>
 Jv (fun v130 H131 =>
 R6 [(l1.getD 0 .junk), (l1.getD 1 .junk), (l1.getD 2 .junk), v130] H131)
 (fun R132 =>
 aG v118.nod false (
 C.aNC (l1.getD 2 .junk).nod.nod fun v133 =>
 C.aFA 0 1 false v133.nod fun v134 =>
 C.aLd 1 false false v134.nod H119 fun v135 H136 =>
 C.aNC v135.nod fun v137 =>
 C.aFA 7 1 false v137.nod fun v138 =>
 C.aLd 1 false false v138.nod H136 fun v139 H140 =>
 C.aNC (l1.getD 2 .junk).nod.nod fun v141 =>
 C.aFA 0 1 false v141.nod fun v142 =>
 C.aLd 1 false false v142.nod H140 fun v143 H144 =>
 C.aNC v143.nod fun v145 =>
 C.aFA 0 6 true v145.nod fun v146 =>
 C.aFA 5 1 false v146.nod fun v147 =>
 C.aLd 1 false false v147.nod H144 fun v148 H149 =>
 C.aBin (Try.prog.underlying 3) .lss v139.nod v148.nod fun v150 =>
 R132 v150.nod H149) (
 R132 (B true) H119)))
 (fun R120 =>
 aG v117.nod false (
 C.aNC (l1.getD 0 .junk).nod.nod fun v121 =>
 C.aFA 1 1 false v121.nod fun v122 =>
 C.aLd 1 false false v122.nod H116 fun v123 H124 =>
 C.aNC v123.nod fun v125 =>
 C.aFA 0 1 false v125.nod fun v126 =>
 C.aLd 1 false false v126.nod H124 fun v127 H128 =>
 C.aEqP .eql (l1.getD 2 .junk).nod.nod v127.nod H128 fun v129 =>
 R120 v129.nod H128) (
 R120 (B true) H116))))
 (fun R3 =>
 C.aNC a0.nod.nod fun v151 =>
 C.aFA 1 1 false v151.nod fun v152 =>
 C.aLd 1 false false v152.nod H fun v153 H154 =>
 C.aNC v153.nod fun v155 =>
 C.aFA 0 1 false v155.nod fun v156 =>
 C.aLd 1 false false v156.nod H154 fun v157 H158 =>
 C.aNC v157.nod fun v159 =>
 C.aFA 1 1 false v159.nod fun v160 =>
 C.aLd 1 false false v160.nod H158 fun v161 H162 =>
 R3 [a0, a1, v161] H162)
theorem wf63 : (Nat.ble 2 Try.f63.ntmps && wfC an63 Try.f63.ntmps (Try.f63.body.getD .skip)) = true := by kernel_rfl
theorem tie63 (C : Cb) (a0 a1 : V) (H : Hp) (R : List V → Hp → Prop) : wpG Try.prog C an63 (Try.f63.body.getD .skip) (argF [a0, a1]) H (retG Try.prog C Try.f63 R) (fun _ _ _ => False) (retG Try.prog C Try.f63 R) = vc63 C a0 a1 H R := by kernel_rfl
theorem mkE63 (a0 a1 : V) {H : Hp} {Q : V → Hp → Prop} (h : vc63 (real Try.prog) a0 a1 H (retW Q)) : RetE Try.prog 63 [a0, a1] H Q :=
 retE_mk (an := an63) hm Try.call63 Try.func63 rfl wf63 (Eq.mpr (tie63 (real Try.prog) a0 a1 H (retW Q)) h)
def an64 : An := { imm := [], jn := [(2, [0, 1, 25]), (7, [0])], lp := [], loud := [], ord := [] }
def vc64 (C : Cb) (a0 a1 : V) (H : Hp) (R : List V → Hp → Prop) : Prop :=
 Jn (fun l1 H2 =>
 aCond (l1.getD 2 .junk).nod (
 R [(B false)] H2) (
 Jn (fun l4 H5 =>
 C.aNC (l4.getD 0 .junk).nod.nod fun v7 =>
 C.aFA 6 1 false v7.nod fun v8 =>
 C.aSt 1 v8.nod (I 0) H5 fun v9 H10 =>
 R [(B true)] H10)
 (fun R6 =>
 C.aNC (l1.getD 0 .junk).nod.nod fun v11 =>
 C.aFA 6 1 false v11.nod fun v12 =>
 C.aLd 1 false false v12.nod H2 fun v13 H14 =>
 C.aBin (Try.prog.underlying 3) .eql v13.nod (I 2) fun v15 =>
 aCond v15.nod (
 C.aNC (l1.getD 0 .junk).nod.nod fun v16 =>
 C.aFA 7 1 false v16.nod fun v17 =>
 C.aLd 1 false false v17.nod H14 fun v18 H19 =>
 C.callE 96 [(l1.getD 0 .junk).nod.nod, (I 5), v18.nod, (V.imm (.string (ByteArray.mk #[])))] H19 fun v20 H21 =>
 aCallEG C (l1.getD 1 .junk).nod.nod [v20.nod] H21 fun v22 H23 =>
 R6 [(l1.getD 0 .junk)] H23) (
 C.callE 97 [(l1.getD 0 .junk).nod.nod, (l1.getD 1 .junk).nod.nod] H14 fun v24 H25 =>
 C.aNC (l1.getD 0 .junk).nod.nod fun v26 =>
 C.aFA 7 1 false v26.nod fun v27 =>
 C.aLd 1 false false v27.nod H25 fun v28 H29 =>
 C.callE 96 [(l1.getD 0 .junk).nod.nod, (I 3), v28.nod, (V.imm (.string (ByteArray.mk #[])))] H29 fun v30 H31 =>
 aCallEG C (l1.getD 1 .junk).nod.nod [v30.nod] H31 fun v32 H33 =>
 R6 [(l1.getD 0 .junk)] H33))))
 (fun R3 =>
 C.aNC a0.nod.nod fun v34 =>
 C.aFA 6 1 false v34.nod fun v35 =>
 C.aLd 1 false false v35.nod H fun v36 H37 =>
 C.aBin (Try.prog.underlying 3) .eql v36.nod (I 0) fun v38 =>
 Jv (fun v39 H40 =>
 R3 [a0, a1, v39] H40)
 (fun R41 =>
 aG v38.nod false (
 C.aNC a0.nod.nod fun v42 =>
 C.aFA 8 1 false v42.nod fun v43 =>
 C.aLd 1 false false v43.nod H37 fun v44 H45 =>
 C.aNC a0.nod.nod fun v46 =>
 C.aFA 7 1 false v46.nod fun v47 =>
 C.aLd 1 false false v47.nod H45 fun v48 H49 =>
 C.aNC v48.nod fun v50 =>
 C.aFA 0 6 true v50.nod fun v51 =>
 C.aFA 2 1 false v51.nod fun v52 =>
 C.aLd 1 false false v52.nod H49 fun v53 H54 =>
 C.aLen v53.nod fun v55 =>
 C.aBin (Try.prog.underlying 3) .lss v44.nod v55.nod fun v56 =>
 R41 v56.nod H54) (
 R41 (B true) H37)))
theorem wf64 : (Nat.ble 2 Try.f64.ntmps && wfC an64 Try.f64.ntmps (Try.f64.body.getD .skip)) = true := by kernel_rfl
theorem tie64 (C : Cb) (a0 a1 : V) (H : Hp) (R : List V → Hp → Prop) : wpG Try.prog C an64 (Try.f64.body.getD .skip) (argF [a0, a1]) H (retG Try.prog C Try.f64 R) (fun _ _ _ => False) (retG Try.prog C Try.f64 R) = vc64 C a0 a1 H R := by kernel_rfl
theorem mkE64 (a0 a1 : V) {H : Hp} {Q : V → Hp → Prop} (h : vc64 (real Try.prog) a0 a1 H (retW Q)) : RetE Try.prog 64 [a0, a1] H Q :=
 retE_mk (an := an64) hm Try.call64 Try.func64 rfl wf64 (Eq.mpr (tie64 (real Try.prog) a0 a1 H (retW Q)) h)
def an65 : An := { imm := [], jn := [(4, [0]), (6, [0, 1]), (8, [0, 1, 5, 54]), (9, [0, 5])], lp := [], loud := [], ord := [] }
def vc65 (C : Cb) (a0 a1 : V) (H : Hp) (R : List V → Hp → Prop) : Prop :=
 Jn (fun l1 H2 =>
 C.aNC (l1.getD 0 .junk).nod.nod fun v4 =>
 C.aFA 1 1 false v4.nod fun v5 =>
 C.aLd 1 false false v5.nod H2 fun v6 H7 =>
 C.aNC v6.nod fun v8 =>
 C.aFA 1 1 false v8.nod fun v9 =>
 C.aLd 1 false false v9.nod H7 fun v10 H11 =>
 C.aBin (Try.prog.underlying 3) .gtr v10.nod (I 0) fun v12 =>
 Jn (fun l13 H14 =>
 C.aNC (l13.getD 0 .junk).nod.nod fun v16 =>
 C.aFA 9 1 false v16.nod fun v17 =>
 C.aSt 1 v17.nod (l13.getD 1 .junk).nod H14 fun v18 H19 =>
 R [(I 0)] H19)
 (fun R15 =>
 Jn (fun l20 H21 =>
 aCond (l20.getD 3 .junk).nod (
 C.aNC (l20.getD 0 .junk).nod.nod fun v23 =>
 C.aFA 1 1 false v23.nod fun v24 =>
 C.aLd 1 false false v24.nod H21 fun v25 H26 =>
 C.aNC v25.nod fun v27 =>
 C.aFA 0 1 false v27.nod fun v28 =>
 C.aLd 1 false false v28.nod H26 fun v29 H30 =>
 C.aNC v29.nod fun v31 =>
 C.aFA 1 1 false v31.nod fun v32 =>
 C.aLd 1 false false v32.nod H30 fun v33 H34 =>
 C.aNC v33.nod fun v35 =>
 C.aFA 0 1 false v35.nod fun v36 =>
 C.aLd 1 false false v36.nod H34 fun v37 H38 =>
 C.callE 96 [(l20.getD 0 .junk).nod.nod, (I 6), v37.nod, (V.imm (.string (ByteArray.mk #[])))] H38 fun v39 H40 =>
 aCallEG C (l20.getD 1 .junk).nod.nod [v39.nod] H40 fun v41 H42 =>
 R15 [(l20.getD 0 .junk), (l20.getD 2 .junk)] H42) (
 R15 [(l20.getD 0 .junk), (l20.getD 2 .junk)] H21))
 (fun R22 =>
 Jv (fun v43 H44 =>
 R22 [(l1.getD 0 .junk), (l1.getD 1 .junk), v12, v43] H44)
 (fun R45 =>
 aG v12.nod.nod true (
 C.aNC (l1.getD 0 .junk).nod.nod fun v46 =>
 C.aFA 9 1 false v46.nod fun v47 =>
 C.aLd 1 false false v47.nod H11 fun v48 H49 =>
 C.aUn .not v48.nod fun v50 =>
 R45 v50.nod H49) (
 R45 (B false) H11)))))
 (fun R3 =>
 C.aNC a0.nod.nod fun v51 =>
 C.aFA 6 1 false v51.nod fun v52 =>
 C.aLd 1 false false v52.nod H fun v53 H54 =>
 C.aBin (Try.prog.underlying 3) .neq v53.nod (I 0) fun v55 =>
 aCond v55.nod (
 C.callE 97 [a0.nod.nod, a1.nod.nod] H54 fun v56 H57 =>
 Jn (fun l58 H59 =>
 C.aNC (l58.getD 0 .junk).nod.nod fun v61 =>
 C.aFA 9 1 false v61.nod fun v62 =>
 C.aSt 1 v62.nod (B false) H59 fun v63 H64 =>
 C.aNC (l58.getD 0 .junk).nod.nod fun v65 =>
 C.aFA 7 1 false v65.nod fun v66 =>
 C.aLd 1 false false v66.nod H64 fun v67 H68 =>
 C.aNC v67.nod fun v69 =>
 C.aFA 0 6 true v69.nod fun v70 =>
 C.aFA 2 1 false v70.nod fun v71 =>
 C.aLd 1 false false v71.nod H68 fun v72 H73 =>
 C.aNC (l58.getD 0 .junk).nod.nod fun v74 =>
 C.aFA 8 1 false v74.nod fun v75 =>
 C.aLd 1 false false v75.nod H73 fun v76 H77 =>
 C.aBin (Try.prog.underlying 3) .sub v76.nod (I 1) fun v78 =>
 C.aIx 1 v72.nod v78.nod fun v79 =>
 C.aLd 1 false false v79.nod H77 fun v80 H81 =>
 R [v80] H81)
 (fun R60 =>
 C.aNC a0.nod.nod fun v82 =>
 C.aFA 8 1 false v82.nod fun v83 =>
 C.aLd 1 false false v83.nod H57 fun v84 H85 =>
 C.aBin (Try.prog.underlying 3) .add v84.nod (I 1) fun v86 =>
 C.aNC a0.nod.nod fun v87 =>
 C.aFA 8 1 false v87.nod fun v88 =>
 C.aSt 1 v88.nod v86 H85 fun v89 H90 =>
 R60 [a0] H90)) (
 R3 [a0, a1] H54))
theorem wf65 : (Nat.ble 2 Try.f65.ntmps && wfC an65 Try.f65.ntmps (Try.f65.body.getD .skip)) = true := by kernel_rfl
theorem tie65 (C : Cb) (a0 a1 : V) (H : Hp) (R : List V → Hp → Prop) : wpG Try.prog C an65 (Try.f65.body.getD .skip) (argF [a0, a1]) H (retG Try.prog C Try.f65 R) (fun _ _ _ => False) (retG Try.prog C Try.f65 R) = vc65 C a0 a1 H R := by kernel_rfl
theorem mkE65 (a0 a1 : V) {H : Hp} {Q : V → Hp → Prop} (h : vc65 (real Try.prog) a0 a1 H (retW Q)) : RetE Try.prog 65 [a0, a1] H Q :=
 retE_mk (an := an65) hm Try.call65 Try.func65 rfl wf65 (Eq.mpr (tie65 (real Try.prog) a0 a1 H (retW Q)) h)
def an89 : An := { imm := [], jn := [], lp := [], loud := [], ord := [] }
def vc89 (C : Cb) (a0 a1 : V) (H : Hp) (R : List V → Hp → Prop) : Prop :=
 C.callE 104 [a0.nod.nod, a1.nod.nod] H fun v1 H2 =>
 C.aBin (Try.prog.underlying 3) .geq v1.nod (I 0) fun v3 =>
 R [v3] H2
theorem wf89 : (Nat.ble 2 Try.f89.ntmps && wfC an89 Try.f89.ntmps (Try.f89.body.getD .skip)) = true := by kernel_rfl
theorem tie89 (C : Cb) (a0 a1 : V) (H : Hp) (R : List V → Hp → Prop) : wpG Try.prog C an89 (Try.f89.body.getD .skip) (argF [a0, a1]) H (retG Try.prog C Try.f89 R) (fun _ _ _ => False) (retG Try.prog C Try.f89 R) = vc89 C a0 a1 H R := by kernel_rfl
theorem mk89 (a0 a1 : V) {H : Hp} {v : V} {H1 : Hp} (hd : v.Nd) (hn : H.length ≤ H1.length) (hb : H1 = H ∨ ∀ (b : Nat) (blk : Blk), H1[b]? = some blk → H[b]? = some blk ∨ BelB H1.length blk) (h : vc89 (real Try.prog) a0 a1 H (retF v H1)) : Ret Try.prog 89 [a0, a1] H v H1 :=
 ret_mk (an := an89) hm Try.call89 Try.func89 rfl wf89 hd hn hb (Eq.mpr (tie89 (real Try.prog) a0 a1 H (retF v H1)) h)
def an90 : An := { imm := [], jn := [], lp := [], loud := [], ord := [] }
def vc90 (C : Cb) (a0 : V) (H : Hp) (R : List V → Hp → Prop) : Prop :=
 C.callE 61 [a0.nod.nod, (I (-32768)), (I 32767)] H fun v1 H2 =>
 C.aUn .not v1.nod fun v3 =>
 R [v3] H2
theorem wf90 : (Nat.ble 1 Try.f90.ntmps && wfC an90 Try.f90.ntmps (Try.f90.body.getD .skip)) = true := by kernel_rfl
theorem tie90 (C : Cb) (a0 : V) (H : Hp) (R : List V → Hp → Prop) : wpG Try.prog C an90 (Try.f90.body.getD .skip) (argF [a0]) H (retG Try.prog C Try.f90 R) (fun _ _ _ => False) (retG Try.prog C Try.f90 R) = vc90 C a0 H R := by kernel_rfl
theorem mk90 (a0 : V) {H : Hp} {v : V} {H1 : Hp} (hd : v.Nd) (hn : H.length ≤ H1.length) (hb : H1 = H ∨ ∀ (b : Nat) (blk : Blk), H1[b]? = some blk → H[b]? = some blk ∨ BelB H1.length blk) (h : vc90 (real Try.prog) a0 H (retF v H1)) : Ret Try.prog 90 [a0] H v H1 :=
 ret_mk (an := an90) hm Try.call90 Try.func90 rfl wf90 hd hn hb (Eq.mpr (tie90 (real Try.prog) a0 H (retF v H1)) h)
def an91 : An := { imm := [], jn := [], lp := [], loud := [], ord := [] }
def vc91 (C : Cb) (a0 : V) (H : Hp) (R : List V → Hp → Prop) : Prop :=
 C.aLenT a0.nod.nod fun v1 =>
 C.callE 61 [v1.nod, (I 1), (I 40)] H fun v2 H3 =>
 Jv (fun v4 H5 =>
 R [v4] H5)
 (fun R6 =>
 aG v2.nod true (
 C.aTB a0.nod.nod fun v7 =>
 C.callE 105 [v7.nod, (V.fn 106 [])] H3 fun v8 H9 =>
 C.aUn .not v8.nod fun v10 =>
 R6 v10.nod H9) (
 R6 (B false) H3))
theorem wf91 : (Nat.ble 1 Try.f91.ntmps && wfC an91 Try.f91.ntmps (Try.f91.body.getD .skip)) = true := by kernel_rfl
theorem tie91 (C : Cb) (a0 : V) (H : Hp) (R : List V → Hp → Prop) : wpG Try.prog C an91 (Try.f91.body.getD .skip) (argF [a0]) H (retG Try.prog C Try.f91 R) (fun _ _ _ => False) (retG Try.prog C Try.f91 R) = vc91 C a0 H R := by kernel_rfl
theorem mk91 (a0 : V) {H : Hp} {v : V} {H1 : Hp} (hd : v.Nd) (hn : H.length ≤ H1.length) (hb : H1 = H ∨ ∀ (b : Nat) (blk : Blk), H1[b]? = some blk → H[b]? = some blk ∨ BelB H1.length blk) (h : vc91 (real Try.prog) a0 H (retF v H1)) : Ret Try.prog 91 [a0] H v H1 :=
 ret_mk (an := an91) hm Try.call91 Try.func91 rfl wf91 hd hn hb (Eq.mpr (tie91 (real Try.prog) a0 H (retF v H1)) h)
def an92 : An := { imm := [2, 3], jn := [], lp := [], loud := [], ord := [] }
def vc92 (C : Cb) (a0 a1 : V) (H : Hp) (R : List V → Hp → Prop) : Prop :=
 C.aBx true 6 a0.nod H fun v1 H2 =>
 C.aBx true 2 a1.nod H2 fun v3 H4 =>
 R [(V.fn 107 [v1.nod, v3.nod])] H4
theorem wf92 : (Nat.ble 2 Try.f92.ntmps && wfC an92 Try.f92.ntmps (Try.f92.body.getD .skip)) = true := by kernel_rfl
theorem tie92 (C : Cb) (a0 a1 : V) (H : Hp) (R : List V → Hp → Prop) : wpG Try.prog C an92 (Try.f92.body.getD .skip) (argF [a0, a1]) H (retG Try.prog C Try.f92 R) (fun _ _ _ => False) (retG Try.prog C Try.f92 R) = vc92 C a0 a1 H R := by kernel_rfl
theorem mk92 (a0 a1 : V) {H : Hp} {v : V} {H1 : Hp} (hd : v.Nd) (hn : H.length ≤ H1.length) (hb : H1 = H ∨ ∀ (b : Nat) (blk : Blk), H1[b]? = some blk → H[b]? = some blk ∨ BelB H1.length blk) (h : vc92 (real Try.prog) a0 a1 H (retF v H1)) : Ret Try.prog 92 [a0, a1] H v H1 :=
 ret_mk (an := an92) hm Try.call92 Try.func92 rfl wf92 hd hn hb (Eq.mpr (tie92 (real Try.prog) a0 a1 H (retF v H1)) h)
def an93 : An := { imm := [], jn := [], lp := [], loud := [], ord := [] }
def vc93 (C : Cb) (a0 : V) (H : Hp) (R : List V → Hp → Prop) : Prop :=
 C.aNilS (Try.prog.underlying 22) .eql a0.nod.nod fun v1 =>
 aCond v1.nod (
 R [(V.arr [] .full)] H) (
 C.aBS 1 0 (I 0) [] fun v2 =>
 C.aApp 1 8 v2 a0.nod.nod fun v3 =>
 R [v3] H)
theorem wf93 : (Nat.ble 1 Try.f93.ntmps && wfC an93 Try.f93.ntmps (Try.f93.body.getD .skip)) = true := by kernel_rfl
theorem tie93 (C : Cb) (a0 : V) (H : Hp) (R : List V → Hp → Prop) : wpG Try.prog C an93 (Try.f93.body.getD .skip) (argF [a0]) H (retG Try.prog C Try.f93 R) (fun _ _ _ => False) (retG Try.prog C Try.f93 R) = vc93 C a0 H R := by kernel_rfl
theorem mk93 (a0 : V) {H : Hp} {v : V} {H1 : Hp} (hd : v.Nd) (hn : H.length ≤ H1.length) (hb : H1 = H ∨ ∀ (b : Nat) (blk : Blk), H1[b]? = some blk → H[b]? = some blk ∨ BelB H1.length blk) (h : vc93 (real Try.prog) a0 H (retF v H1)) : Ret Try.prog 93 [a0] H v H1 :=
 ret_mk (an := an93) hm Try.call93 Try.func93 rfl wf93 hd hn hb (Eq.mpr (tie93 (real Try.prog) a0 H (retF v H1)) h)
def an94 : An := { imm := [], jn := [], lp := [], loud := [], ord := [] }
def vc94 (C : Cb) (a0 : V) (H : Hp) (R : List V → Hp → Prop) : Prop :=
 C.aNilS (Try.prog.underlying 23) .eql a0.nod.nod fun v1 =>
 aCond v1.nod (
 R [(V.arr [] .full)] H) (
 C.aBS 2 0 (V.agg [(I 0), (V.imm (.string (ByteArray.mk #[])))]) [] fun v2 =>
 C.aApp 2 24 v2 a0.nod.nod fun v3 =>
 R [v3] H)
theorem wf94 : (Nat.ble 1 Try.f94.ntmps && wfC an94 Try.f94.ntmps (Try.f94.body.getD .skip)) = true := by kernel_rfl
theorem tie94 (C : Cb) (a0 : V) (H : Hp) (R : List V → Hp → Prop) : wpG Try.prog C an94 (Try.f94.body.getD .skip) (argF [a0]) H (retG Try.prog C Try.f94 R) (fun _ _ _ => False) (retG Try.prog C Try.f94 R) = vc94 C a0 H R := by kernel_rfl
theorem mk94 (a0 : V) {H : Hp} {v : V} {H1 : Hp} (hd : v.Nd) (hn : H.length ≤ H1.length) (hb : H1 = H ∨ ∀ (b : Nat) (blk : Blk), H1[b]? = some blk → H[b]? = some blk ∨ BelB H1.length blk) (h : vc94 (real Try.prog) a0 H (retF v H1)) : Ret Try.prog 94 [a0] H v H1 :=
 ret_mk (an := an94) hm Try.call94 Try.func94 rfl wf94 hd hn hb (Eq.mpr (tie94 (real Try.prog) a0 H (retF v H1)) h)
def an95 : An := { imm := [], jn := [(2, [0])], lp := [], loud := [], ord := [] }
def vc95 (C : Cb) (a0 a1 a2 : V) (H : Hp) (R : List V → Hp → Prop) : Prop :=
 C.aNC a1.nod.nod fun v1 =>
 C.aFA 2 1 false v1.nod fun v2 =>
 C.aLd 1 false false v2.nod H fun v3 H4 =>
 C.aBd [(V.imm (.pointer none)), (V.imm (.pointer none)), (V.imm (.pointer none))] [(0, 1, a2.nod.nod), (1, 1, a1.nod.nod.nod), (2, 1, v3.nod.nod)] fun v5 =>
 C.aBx false 3 (own0 v5 a2.nod).nod H4 fun v6 H7 =>
 Jn (fun l8 H9 =>
 C.aNC (l8.getD 0 .junk).nod.nod fun v11 =>
 C.aFA 1 1 false v11.nod fun v12 =>
 C.aLd 1 false false v12.nod H9 fun v13 H14 =>
 C.aBin (Try.prog.underlying 3) .add v13.nod (I 1) fun v15 =>
 C.aNC (l8.getD 0 .junk).nod.nod fun v16 =>
 C.aFA 1 1 false v16.nod fun v17 =>
 C.aSt 1 v17.nod v15 H14 fun v18 H19 =>
 R [] H19)
 (fun R10 =>
 C.aNC a1.nod.nod fun v20 =>
 C.aFA 2 1 false v20.nod fun v21 =>
 C.aLd 1 false false v21.nod H7 fun v22 H23 =>
 C.aNC v22.nod fun v24 =>
 C.aFA 1 1 false v24.nod fun v25 =>
 C.aSt 1 v25.nod v6.nod H23 fun v26 H27 =>
 C.aNC a1.nod.nod fun v28 =>
 C.aFA 2 1 false v28.nod fun v29 =>
 C.aSt 1 v29.nod v6.nod H27 fun v30 H31 =>
 R10 [a0] H31)
theorem wf95 : (Nat.ble 3 Try.f95.ntmps && wfC an95 Try.f95.ntmps (Try.f95.body.getD .skip)) = true := by kernel_rfl
theorem tie95 (C : Cb) (a0 a1 a2 : V) (H : Hp) (R : List V → Hp → Prop) : wpG Try.prog C an95 (Try.f95.body.getD .skip) (argF [a0, a1, a2]) H (retG Try.prog C Try.f95 R) (fun _ _ _ => False) (retG Try.prog C Try.f95 R) = vc95 C a0 a1 a2 H R := by kernel_rfl
theorem mkE95 (a0 a1 a2 : V) {H : Hp} {Q : V → Hp → Prop} (h : vc95 (real Try.prog) a0 a1 a2 H (retW Q)) : RetE Try.prog 95 [a0, a1, a2] H Q :=
 retE_mk (an := an95) hm Try.call95 Try.func95 rfl wf95 (Eq.mpr (tie95 (real Try.prog) a0 a1 a2 H (retW Q)) h)
def an96 : An := { imm := [], jn := [], lp := [], loud := [], ord := [] }
def vc96 (C : Cb) (a0 a1 a2 a3 : V) (H : Hp) (R : List V → Hp → Prop) : Prop :=
 C.aBx false 4 (V.agg [(I 0), (I 0), (I 0), (V.imm (.string (ByteArray.mk #[])))]) H fun v1 H2 =>
 C.aNC a0.nod.nod fun v3 =>
 C.aFA 5 1 false v3.nod fun v4 =>
 C.aLd 1 false false v4.nod H2 fun v5 H6 =>
 C.aNC a2.nod.nod fun v7 =>
 C.aFA 6 1 false v7.nod fun v8 =>
 C.aLd 1 false false v8.nod H6 fun v9 H10 =>
 C.aBd [(I 0), (I 0), (I 0), (V.imm (.string (ByteArray.mk #[])))] [(0, 1, a1.nod.nod), (1, 1, v5.nod.nod), (2, 1, v9.nod.nod), (3, 1, a3.nod.nod.nod)] fun v11 =>
 C.aSt 4 v1.nod (own0 v11 a1.nod) H10 fun v12 H13 =>
 C.aRes 4 true v1 H13 fun v14 =>
 R [v14] H13
theorem wf96 : (Nat.ble 4 Try.f96.ntmps && wfC an96 Try.f96.ntmps (Try.f96.body.getD .skip)) = true := by kernel_rfl
theorem tie96 (C : Cb) (a0 a1 a2 a3 : V) (H : Hp) (R : List V → Hp → Prop) : wpG Try.prog C an96 (Try.f96.body.getD .skip) (argF [a0, a1, a2, a3]) H (retG Try.prog C Try.f96 R) (fun _ _ _ => False) (retG Try.prog C Try.f96 R) = vc96 C a0 a1 a2 a3 H R := by kernel_rfl
theorem mk96 (a0 a1 a2 a3 : V) {H : Hp} {v : V} {H1 : Hp} (hd : v.Nd) (hn : H.length ≤ H1.length) (hb : H1 = H ∨ ∀ (b : Nat) (blk : Blk), H1[b]? = some blk → H[b]? = some blk ∨ BelB H1.length blk) (h : vc96 (real Try.prog) a0 a1 a2 a3 H (retF v H1)) : Ret Try.prog 96 [a0, a1, a2, a3] H v H1 :=
 ret_mk (an := an96) hm Try.call96 Try.func96 rfl wf96 hd hn hb (Eq.mpr (tie96 (real Try.prog) a0 a1 a2 a3 H (retF v H1)) h)
def an97 : An := { imm := [], jn := [(1, [0, 1]), (2, [0, 1])], lp := [(0, [0, 1])], loud := [49, 50], ord := [] }
def vc97 (C : Cb) (a0 a1 : V) (H : Hp) (R : List V → Hp → Prop) : Prop :=
 LoopA (fun l1 H2 K3 =>
 Jn (fun l4 H5 =>
 Jn (fun l7 H8 =>
 C.aNC (l7.getD 0 .junk).nod.nod fun v10 =>
 C.aFA 7 1 false v10.nod fun v11 =>
 C.aLd 1 false false v11.nod H8 fun v12 H13 =>
 C.aNC (l7.getD 0 .junk).nod.nod fun v14 =>
 C.aFA 7 1 false v14.nod fun v15 =>
 C.aLd 1 false false v15.nod H13 fun v16 H17 =>
 C.aNC v16.nod fun v18 =>
 C.aFA 0 6 true v18.nod fun v19 =>
 C.aFA 4 1 false v19.nod fun v20 =>
 C.aLd 1 false false v20.nod H17 fun v21 H22 =>
 C.aSlc 2 v21.nod (some (I 1)) none none fun v23 =>
 C.aNC v12.nod fun v24 =>
 C.aFA 0 6 true v24.nod fun v25 =>
 C.aFA 4 1 false v25.nod fun v26 =>
 C.aSt 1 v26.nod v23 H22 fun v27 H28 =>
 K3 [(l7.getD 0 .junk), (l7.getD 1 .junk)] H28)
 (fun R9 =>
 C.aNC (l4.getD 0 .junk).nod.nod fun v29 =>
 C.aFA 7 1 false v29.nod fun v30 =>
 C.aLd 1 false false v30.nod H5 fun v31 H32 =>
 C.aNC (l4.getD 0 .junk).nod.nod fun v33 =>
 C.aFA 7 1 false v33.nod fun v34 =>
 C.aLd 1 false false v34.nod H32 fun v35 H36 =>
 C.aNC v35.nod fun v37 =>
 C.aFA 0 6 true v37.nod fun v38 =>
 C.aFA 4 1 false v38.nod fun v39 =>
 C.aLd 1 false false v39.nod H36 fun v40 H41 =>
 C.aIx 2 v40.nod (I 0) fun v42 =>
 C.aFA 1 1 false v42.nod fun v43 =>
 C.aLd 1 false false v43.nod H41 fun v44 H45 =>
 C.call 96 [(l4.getD 0 .junk).nod.nod, (I 2), v31.nod, v44.nod] H45 fun v46 H47 =>
 aCallG C (l4.getD 1 .junk).nod.nod [v46.nod] H47 fun v48 H49 =>
 R9 [(l4.getD 0 .junk), (l4.getD 1 .junk)] H49))
 (fun R6 =>
 C.aNC (l1.getD 0 .junk).nod.nod fun v50 =>
 C.aFA 7 1 false v50.nod fun v51 =>
 C.aLd 1 false false v51.nod H2 fun v52 H53 =>
 C.aNC v52.nod fun v54 =>
 C.aFA 0 6 true v54.nod fun v55 =>
 C.aFA 4 1 false v55.nod fun v56 =>
 C.aLd 1 false false v56.nod H53 fun v57 H58 =>
 C.aLen v57.nod fun v59 =>
 C.aBin (Try.prog.underlying 3) .gtr v59.nod (I 0) fun v60 =>
 Jv (fun v61 H62 =>
 aCond v61.nod (
 R6 [(l1.getD 0 .junk), (l1.getD 1 .junk)] H62) (
 R [] H62))
 (fun R63 =>
 aG v60.nod true (
 C.aNC (l1.getD 0 .junk).nod.nod fun v64 =>
 C.aFA 7 1 false v64.nod fun v65 =>
 C.aLd 1 false false v65.nod H58 fun v66 H67 =>
 C.aNC v66.nod fun v68 =>
 C.aFA 0 6 true v68.nod fun v69 =>
 C.aFA 4 1 false v69.nod fun v70 =>
 C.aLd 1 false false v70.nod H67 fun v71 H72 =>
 C.aIx 2 v71.nod (I 0) fun v73 =>
 C.aFA 0 1 false v73.nod fun v74 =>
 C.aLd 1 false false v74.nod H72 fun v75 H76 =>
 C.aNC (l1.getD 0 .junk).nod.nod fun v77 =>
 C.aFA 8 1 false v77.nod fun v78 =>
 C.aLd 1 false false v78.nod H76 fun v79 H80 =>
 C.aBin (Try.prog.underlying 3) .leq v75.nod v79.nod fun v81 =>
 R63 v81.nod H80) (
 R63 (B false) H58))))
 [a0, a1] H
theorem wf97 : (Nat.ble 2 Try.f97.ntmps && wfC an97 Try.f97.ntmps (Try.f97.body.getD .skip)) = true := by kernel_rfl
theorem tie97 (C : Cb) (a0 a1 : V) (H : Hp) (R : List V → Hp → Prop) : wpG Try.prog C an97 (Try.f97.body.getD .skip) (argF [a0, a1]) H (retG Try.prog C Try.f97 R) (fun _ _ _ => False) (retG Try.prog C Try.f97 R) = vc97 C a0 a1 H R := by kernel_rfl
theorem mkE97 (a0 a1 : V) {H : Hp} {Q : V → Hp → Prop} (h : vc97 (real Try.prog) a0 a1 H (retW Q)) : RetE Try.prog 97 [a0, a1] H Q :=
 retE_mk (an := an97) hm Try.call97 Try.func97 rfl wf97 (Eq.mpr (tie97 (real Try.prog) a0 a1 H (retW Q)) h)
def an98 : An := { imm := [], jn := [], lp := [(2, [0, 1, 7, 8])], loud := [], ord := [] }
def vc98 (C : Cb) (a0 a1 : V) (H : Hp) (R : List V → Hp → Prop) : Prop :=
 C.aLen a0.nod.nod fun v1 =>
 LoopA (fun l2 H3 K4 =>
 C.aBin (Try.prog.underlying 3) .lss (l2.getD 3 .junk).nod (l2.getD 2 .junk).nod fun v5 =>
 aCond v5.nod (
 C.aIx 2 (l2.getD 0 .junk).nod.nod (l2.getD 3 .junk).nod.nod.nod fun v6 =>
 C.aLd 2 true false v6.nod H3 fun v7 H8 =>
 aCallEG C (l2.getD 1 .junk).nod.nod [v7.nod] H8 fun v9 H10 =>
 aCond v9.nod (
 R [(l2.getD 3 .junk).nod.nod] H10) (
 C.aBin (Try.prog.underlying 3) .add (l2.getD 3 .junk).nod (I 1) fun v11 =>
 K4 [(l2.getD 0 .junk), (l2.getD 1 .junk), (l2.getD 2 .junk), v11.nod] H10)) (
 R [(I (-1))] H3))
 [a0, a1, v1, (I 0)] H
theorem wf98 : (Nat.ble 2 Try.f98.ntmps && wfC an98 Try.f98.ntmps (Try.f98.body.getD .skip)) = true := by kernel_rfl
theorem tie98 (C : Cb) (a0 a1 : V) (H : Hp) (R : List V → Hp → Prop) : wpG Try.prog C an98 (Try.f98.body.getD .skip) (argF [a0, a1]) H (retG Try.prog C Try.f98 R) (fun _ _ _ => False) (retG Try.prog C Try.f98 R) = vc98 C a0 a1 H R := by kernel_rfl
theorem mk98 (a0 a1 : V) {H : Hp} {v : V} {H1 : Hp} (hd : v.Nd) (hn : H.length ≤ H1.length) (hb : H1 = H ∨ ∀ (b : Nat) (blk : Blk), H1[b]? = some blk → H[b]? = some blk ∨ BelB H1.length blk) (h : vc98 (real Try.prog) a0 a1 H (retF v H1)) : Ret Try.prog 98 [a0, a1] H v H1 :=
 ret_mk (an := an98) hm Try.call98 Try.func98 rfl wf98 hd hn hb (Eq.mpr (tie98 (real Try.prog) a0 a1 H (retF v H1)) h)
def an104 : An := { imm := [], jn := [], lp := [(2, [0, 1, 7, 8])], loud := [], ord := [] }
def vc104 (C : Cb) (a0 a1 : V) (H : Hp) (R : List V → Hp → Prop) : Prop :=
 C.aLen a0.nod.nod fun v1 =>
 LoopA (fun l2 H3 K4 =>
 C.aBin (Try.prog.underlying 3) .lss (l2.getD 3 .junk).nod (l2.getD 2 .junk).nod fun v5 =>
 aCond v5.nod (
 C.aIx 1 (l2.getD 0 .junk).nod.nod (l2.getD 3 .junk).nod.nod.nod fun v6 =>
 C.aLd 1 false false v6.nod H3 fun v7 H8 =>
 aCallEG C (l2.getD 1 .junk).nod.nod [v7.nod] H8 fun v9 H10 =>
 aCond v9.nod (
 R [(l2.getD 3 .junk).nod.nod] H10) (
 C.aBin (Try.prog.underlying 3) .add (l2.getD 3 .junk).nod (I 1) fun v11 =>
 K4 [(l2.getD 0 .junk), (l2.getD 1 .junk), (l2.getD 2 .junk), v11.nod] H10)) (
 R [(I (-1))] H3))
 [a0, a1, v1, (I 0)] H
theorem wf104 : (Nat.ble 2 Try.f104.ntmps && wfC an104 Try.f104.ntmps (Try.f104.body.getD .skip)) = true := by kernel_rfl
theorem tie104 (C : Cb) (a0 a1 : V) (H : Hp) (R : List V → Hp → Prop) : wpG Try.prog C an104 (Try.f104.body.getD .skip) (argF [a0, a1]) H (retG Try.prog C Try.f104 R) (fun _ _ _ => False) (retG Try.prog C Try.f104 R) = vc104 C a0 a1 H R := by kernel_rfl
theorem mk104 (a0 a1 : V) {H : Hp} {v : V} {H1 : Hp} (hd : v.Nd) (hn : H.length ≤ H1.length) (hb : H1 = H ∨ ∀ (b : Nat) (blk : Blk), H1[b]? = some blk → H[b]? = some blk ∨ BelB H1.length blk) (h : vc104 (real Try.prog) a0 a1 H (retF v H1)) : Ret Try.prog 104 [a0, a1] H v H1 :=
 ret_mk (an := an104) hm Try.call104 Try.func104 rfl wf104 hd hn hb (Eq.mpr (tie104 (real Try.prog) a0 a1 H (retF v H1)) h)
def an105 : An := { imm := [], jn := [], lp := [], loud := [], ord := [] }
def vc105 (C : Cb) (a0 a1 : V) (H : Hp) (R : List V → Hp → Prop) : Prop :=
 C.callE 114 [a0.nod.nod, a1.nod.nod] H fun v1 H2 =>
 C.aBin (Try.prog.underlying 3) .geq v1.nod (I 0) fun v3 =>
 R [v3] H2
theorem wf105 : (Nat.ble 2 Try.f105.ntmps && wfC an105 Try.f105.ntmps (Try.f105.body.getD .skip)) = true := by kernel_rfl
theorem tie105 (C : Cb) (a0 a1 : V) (H : Hp) (R : List V → Hp → Prop) : wpG Try.prog C an105 (Try.f105.body.getD .skip) (argF [a0, a1]) H (retG Try.prog C Try.f105 R) (fun _ _ _ => False) (retG Try.prog C Try.f105 R) = vc105 C a0 a1 H R := by kernel_rfl
theorem mk105 (a0 a1 : V) {H : Hp} {v : V} {H1 : Hp} (hd : v.Nd) (hn : H.length ≤ H1.length) (hb : H1 = H ∨ ∀ (b : Nat) (blk : Blk), H1[b]? = some blk → H[b]? = some blk ∨ BelB H1.length blk) (h : vc105 (real Try.prog) a0 a1 H (retF v H1)) : Ret Try.prog 105 [a0, a1] H v H1 :=
 ret_mk (an := an105) hm Try.call105 Try.func105 rfl wf105 hd hn hb (Eq.mpr (tie105 (real Try.prog) a0 a1 H (retF v H1)) h)
def an106 : An := { imm := [], jn := [], lp := [], loud := [], ord := [] }
def vc106 (C : Cb) (a0 : V) (H : Hp) (R : List V → Hp → Prop) : Prop :=
 C.aBin (Try.prog.underlying 5) .lss a0.nod.nod (V.imm (.int .u8 32)) fun v1 =>
 Jv (fun v2 H3 =>
 R [v2] H3)
 (fun R4 =>
 aG v1.nod false (
 C.aBin (Try.prog.underlying 5) .gtr a0.nod.nod (V.imm (.int .u8 126)) fun v5 =>
 R4 v5.nod H) (
 R4 (B true) H))
theorem wf106 : (Nat.ble 1 Try.f106.ntmps && wfC an106 Try.f106.ntmps (Try.f106.body.getD .skip)) = true := by kernel_rfl
theorem tie106 (C : Cb) (a0 : V) (H : Hp) (R : List V → Hp → Prop) : wpG Try.prog C an106 (Try.f106.body.getD .skip) (argF [a0]) H (retG Try.prog C Try.f106 R) (fun _ _ _ => False) (retG Try.prog C Try.f106 R) = vc106 C a0 H R := by kernel_rfl
theorem mk106 (a0 : V) {H : Hp} {v : V} {H1 : Hp} (hd : v.Nd) (hn : H.length ≤ H1.length) (hb : H1 = H ∨ ∀ (b : Nat) (blk : Blk), H1[b]? = some blk → H[b]? = some blk ∨ BelB H1.length blk) (h : vc106 (real Try.prog) a0 H (retF v H1)) : Ret Try.prog 106 [a0] H v H1 :=
 ret_mk (an := an106) hm Try.call106 Try.func106 rfl wf106 hd hn hb (Eq.mpr (tie106 (real Try.prog) a0 H (retF v H1)) h)
def an107 : An := { imm := [], jn := [(4, [0, 1, 2, 4, 5]), (10, [0, 1, 2, 4, 6, 7, 8, 28, 29, 30, 41]), (11, [0, 1, 2, 4, 6, 7, 8, 28, 29, 30]), (12, [0, 1, 2, 4, 7, 8, 9, 28, 29, 30]), (13, [0, 1, 2, 4, 7, 8, 9, 28, 29, 30])], lp := [(6, [0, 1, 2, 4, 28, 29, 30]), (14, [0, 1, 2, 4, 7, 8, 28, 29, 30, 74, 75])], loud := [], ord := [] }
def vc107 (C : Cb) (a0 a1 a2 : V) (H : Hp) (R : List V → Hp → Prop) : Prop :=
 C.aFA 2 1 false a1.nod fun v1 =>
 C.aLd 1 false false v1.nod H fun v2 H3 =>
 C.aLen v2.nod fun v4 =>
 Jn (fun l5 H6 =>
 C.aBd [(I 0), (I 0), (B false)] [(0, 1, (I 0)), (1, 1, (l5.getD 4 .junk).nod.nod.nod), (2, 1, (B true))] fun v8 =>
 aCallEG C (l5.getD 0 .junk).nod.nod [v8.nod] H6 fun v9 H10 =>
 C.aUn .not v9.nod fun v11 =>
 aCond v11.nod (
 R [] H10) (
 C.aFA 3 1 false (l5.getD 1 .junk).nod fun v12 =>
 C.aLd 1 false false v12.nod H10 fun v13 H14 =>
 C.aLen v13.nod fun v15 =>
 LoopA (fun l16 H17 K18 =>
 C.aBin (Try.prog.underlying 3) .lss (l16.getD 6 .junk).nod (l16.getD 5 .junk).nod fun v19 =>
 aCond v19.nod (
 C.aIx 1 (l16.getD 4 .junk).nod (l16.getD 6 .junk).nod fun v20 =>
 C.aLd 1 false false v20.nod H17 fun v21 H22 =>
 Jn (fun l23 H24 =>
 Jn (fun l26 H27 =>
 Jn (fun l29 H30 =>
 LoopA (fun l32 H33 K34 =>
 C.aBin (Try.prog.underlying 3) .lss (l32.getD 10 .junk).nod (l32.getD 9 .junk).nod fun v35 =>
 aCond v35.nod (
 C.aBd [(I 0), (I 0), (B false)] [(0, 1, (l32.getD 4 .junk).nod.nod), (1, 1, (l32.getD 5 .junk).nod.nod.nod), (2, 1, (B true))] fun v36 =>
 aCallEG C (l32.getD 0 .junk).nod.nod [(own0 v36 (l32.getD 4 .junk).nod).nod] H33 fun v37 H38 =>
 C.aUn .not v37.nod fun v39 =>
 aCond v39.nod (
 R [] H38) (
 C.aBin (Try.prog.underlying 3) .add (l32.getD 10 .junk).nod (I 1) fun v40 =>
 K34 [(l32.getD 0 .junk), (l32.getD 1 .junk), (l32.getD 2 .junk), (l32.getD 3 .junk), (l32.getD 4 .junk), (l32.getD 5 .junk), (l32.getD 6 .junk), (l32.getD 7 .junk), (l32.getD 8 .junk), (l32.getD 9 .junk), v40.nod] H38)) (
 C.aBin (Try.prog.underlying 3) .add (l32.getD 8 .junk).nod (I 1) fun v41 =>
 K18 [(l32.getD 0 .junk), (l32.getD 1 .junk), (l32.getD 2 .junk), (l32.getD 3 .junk), (l32.getD 6 .junk), (l32.getD 7 .junk), v41.nod] H33))
 [(l29.getD 0 .junk), (l29.getD 1 .junk), (l29.getD 2 .junk), (l29.getD 3 .junk), (l29.getD 4 .junk), (l29.getD 5 .junk), (l29.getD 7 .junk), (l29.getD 8 .junk), (l29.getD 9 .junk), (l29.getD 6 .junk).nod, (I 0)] H30)
 (fun R31 =>
 C.aBin (Try.prog.underlying 3) .eql (l26.getD 6 .junk).nod.nod (I 0) fun v42 =>
 Jv (fun v43 H44 =>
 aCond v43.nod (
 R [] H44) (
 R31 [(l26.getD 0 .junk), (l26.getD 1 .junk), (l26.getD 2 .junk), (l26.getD 3 .junk), (l26.getD 4 .junk), (l26.getD 5 .junk), (l26.getD 6 .junk), (l26.getD 7 .junk), (l26.getD 8 .junk), (l26.getD 9 .junk)] H44))
 (fun R45 =>
 aG v42.nod true (
 C.aBd [(I 0), (I 0), (B false)] [(0, 1, (l26.getD 4 .junk).nod.nod), (1, 1, (l26.getD 5 .junk).nod.nod.nod), (2, 1, (B false))] fun v46 =>
 aCallEG C (l26.getD 0 .junk).nod.nod [(own0 v46 (l26.getD 4 .junk).nod).nod] H27 fun v47 H48 =>
 C.aUn .not v47.nod fun v49 =>
 R45 v49.nod H48) (
 R45 (B false) H27))))
 (fun R28 =>
 C.aBin (Try.prog.underlying 3) .add (l23.getD 4 .junk).nod.nod (I 1) fun v50 =>
 C.aFA 1 1 false (l23.getD 2 .junk).nod fun v51 =>
 C.aLd 1 false false v51.nod H24 fun v52 H53 =>
 C.aBin (Try.prog.underlying 3) .mul v50.nod v52.nod fun v54 =>
 C.aFA 0 1 false (l23.getD 2 .junk).nod fun v55 =>
 C.aLd 1 false false v55.nod H53 fun v56 H57 =>
 C.aBin (Try.prog.underlying 3) .quo v54.nod v56.nod fun v58 =>
 C.aFA 1 1 false (l23.getD 2 .junk).nod fun v59 =>
 C.aLd 1 false false v59.nod H57 fun v60 H61 =>
 C.aBin (Try.prog.underlying 3) .mul (l23.getD 4 .junk).nod.nod v60.nod fun v62 =>
 C.aFA 0 1 false (l23.getD 2 .junk).nod fun v63 =>
 C.aLd 1 false false v63.nod H61 fun v64 H65 =>
 C.aBin (Try.prog.underlying 3) .quo v62.nod v64.nod fun v66 =>
 C.aBin (Try.prog.underlying 3) .sub v58.nod v66.nod fun v67 =>
 R28 [(l23.getD 0 .junk), (l23.getD 1 .junk), (l23.getD 2 .junk), (l23.getD 3 .junk), (l23.getD 5 .junk), (l23.getD 6 .junk), v67, (l23.getD 7 .junk), (l23.getD 8 .junk), (l23.getD 9 .junk)] H65))
 (fun R25 =>
 Jn (fun l68 H69 =>
 aCond (l68.getD 10 .junk).nod (
 C.aFA 3 1 false (l68.getD 1 .junk).nod fun v71 =>
 C.aLd 1 false false v71.nod H69 fun v72 H73 =>
 C.aBin (Try.prog.underlying 3) .add (l68.getD 4 .junk).nod.nod (I 1) fun v74 =>
 C.aIx 1 v72.nod v74.nod fun v75 =>
 C.aLd 1 false false v75.nod H73 fun v76 H77 =>
 R25 [(l68.getD 0 .junk), (l68.getD 1 .junk), (l68.getD 2 .junk), (l68.getD 3 .junk), (l68.getD 4 .junk), (l68.getD 5 .junk), v76, (l68.getD 7 .junk), (l68.getD 8 .junk), (l68.getD 9 .junk)] H77) (
 R25 [(l68.getD 0 .junk), (l68.getD 1 .junk), (l68.getD 2 .junk), (l68.getD 3 .junk), (l68.getD 4 .junk), (l68.getD 5 .junk), (l68.getD 6 .junk), (l68.getD 7 .junk), (l68.getD 8 .junk), (l68.getD 9 .junk)] H69))
 (fun R70 =>
 C.aBin (Try.prog.underlying 3) .add (l16.getD 6 .junk).nod.nod.nod (I 1) fun v78 =>
 C.aFA 3 1 false (l16.getD 1 .junk).nod fun v79 =>
 C.aLd 1 false false v79.nod H22 fun v80 H81 =>
 C.aLen v80.nod fun v82 =>
 C.aBin (Try.prog.underlying 3) .lss v78.nod v82.nod fun v83 =>
 R70 [(l16.getD 0 .junk), (l16.getD 1 .junk), (l16.getD 2 .junk), (l16.getD 3 .junk), (l16.getD 6 .junk).nod, v21, (l16.getD 3 .junk).nod, (l16.getD 4 .junk), (l16.getD 5 .junk), (l16.getD 6 .junk), v83] H81))) (
 R [] H17))
 [(l5.getD 0 .junk), (l5.getD 1 .junk), (l5.getD 2 .junk), (l5.getD 3 .junk), v13, v15, (I 0)] H14))
 (fun R7 =>
 C.aFA 3 1 false a1.nod fun v84 =>
 C.aLd 1 false false v84.nod H3 fun v85 H86 =>
 C.aLen v85.nod fun v87 =>
 C.aBin (Try.prog.underlying 3) .gtr v87.nod (I 0) fun v88 =>
 aCond v88.nod (
 C.aFA 3 1 false a1.nod fun v89 =>
 C.aLd 1 false false v89.nod H86 fun v90 H91 =>
 C.aIx 1 v90.nod (I 0) fun v92 =>
 C.aLd 1 false false v92.nod H91 fun v93 H94 =>
 R7 [a0, a1, a2, v4, v93] H94) (
 R7 [a0, a1, a2, v4, v4.nod] H86))
theorem wf107 : (Nat.ble 3 Try.f107.ntmps && wfC an107 Try.f107.ntmps (Try.f107.body.getD .skip)) = true := by kernel_rfl
theorem tie107 (C : Cb) (a0 a1 a2 : V) (H : Hp) (R : List V → Hp → Prop) : wpG Try.prog C an107 (Try.f107.body.getD .skip) (argF [a0, a1, a2]) H (retG Try.prog C Try.f107 R) (fun _ _ _ => False) (retG Try.prog C Try.f107 R) = vc107 C a0 a1 a2 H R := by kernel_rfl
theorem mkE107 (a0 a1 a2 : V) {H : Hp} {Q : V → Hp → Prop} (h : vc107 (real Try.prog) a0 a1 a2 H (retW Q)) : RetE Try.prog 107 [a0, a1, a2] H Q :=
 retE_mk (an := an107) hm Try.call107 Try.func107 rfl wf107 (Eq.mpr (tie107 (real Try.prog) a0 a1 a2 H (retW Q)) h)
def an114 : An := { imm := [], jn := [], lp := [(2, [0, 1, 7, 8])], loud := [], ord := [] }
def vc114 (C : Cb) (a0 a1 : V) (H : Hp) (R : List V → Hp → Prop) : Prop :=
 C.aLen a0.nod.nod fun v1 =>
 LoopA (fun l2 H3 K4 =>
 C.aBin (Try.prog.underlying 3) .lss (l2.getD 3 .junk).nod (l2.getD 2 .junk).nod fun v5 =>
 aCond v5.nod (
 C.aIx 1 (l2.getD 0 .junk).nod.nod (l2.getD 3 .junk).nod.nod.nod fun v6 =>
 C.aLd 1 false false v6.nod H3 fun v7 H8 =>
 aCallEG C (l2.getD 1 .junk).nod.nod [v7.nod] H8 fun v9 H10 =>
 aCond v9.nod (
 R [(l2.getD 3 .junk).nod.nod] H10) (
 C.aBin (Try.prog.underlying 3) .add (l2.getD 3 .junk).nod (I 1) fun v11 =>
 K4 [(l2.getD 0 .junk), (l2.getD 1 .junk), (l2.getD 2 .junk), v11.nod] H10)) (
 R [(I (-1))] H3))
 [a0, a1, v1, (I 0)] H
theorem wf114 : (Nat.ble 2 Try.f114.ntmps && wfC an114 Try.f114.ntmps (Try.f114.body.getD .skip)) = true := by kernel_rfl
theorem tie114 (C : Cb) (a0 a1 : V) (H : Hp) (R : List V → Hp → Prop) : wpG Try.prog C an114 (Try.f114.body.getD .skip) (argF [a0, a1]) H (retG Try.prog C Try.f114 R) (fun _ _ _ => False) (retG Try.prog C Try.f114 R) = vc114 C a0 a1 H R := by kernel_rfl
theorem mk114 (a0 a1 : V) {H : Hp} {v : V} {H1 : Hp} (hd : v.Nd) (hn : H.length ≤ H1.length) (hb : H1 = H ∨ ∀ (b : Nat) (blk : Blk), H1[b]? = some blk → H[b]? = some blk ∨ BelB H1.length blk) (h : vc114 (real Try.prog) a0 a1 H (retF v H1)) : Ret Try.prog 114 [a0, a1] H v H1 :=
 ret_mk (an := an114) hm Try.call114 Try.func114 rfl wf114 hd hn hb (Eq.mpr (tie114 (real Try.prog) a0 a1 H (retF v H1)) h)
end Go.Proofs.Ytlnjhnemmemloaa
set_option linter.unusedSimpArgs false
set_option linter.unnecessarySimpa false
set_option maxHeartbeats 2000000
namespace Go.Proofs.Ytlnjhnemmemloaa
open Go Go.Ab Go.Proofs
attribute [local congr] g_bin g_nilS g_nilP g_un g_ext g_bx g_fa g_ld g_st g_ix g_ixA g_slc g_mk g_bs g_bd g_nc g_cv g_len g_lenT g_app g_appB g_cpy g_mm g_call g_callG g_calm g_calmG g_range g_res g_pick g_cond g_loop g_Jv g_eqS g_eqP g_fd g_ixT g_ta g_lkp g_upd g_mkM g_appS g_inv g_callE g_callEG g_invE g_zr g_wr
theorem hMem (l : List Int) {i : Nat} (h : i < l.length) : l.getD i 0 ∈ l := by simp [List.getD_eq_getElem?_getD, h]
theorem getD_some (l : List Int) {i : Nat} (h : i < l.length) : l[i]? = some (l.getD i 0) := by simp [List.getD_eq_getElem?_getD, h]
def inB (n lo hi : Int) : Bool := decide (lo ≤ n) && decide (n ≤ hi)
theorem inB_iff {n lo hi : Int} : inB n lo hi = true ↔ lo ≤ n ∧ n ≤ hi := by simp [inB]
def idxI {α : Type} (p : α → Bool) (l : List α) : Int := match l.findIdx? p with | some i => i | none => -1
theorem idxI_any {α : Type} (p : α → Bool) (l : List α) : decide (0 ≤ idxI p l) = l.any p := by
 unfold idxI
 cases h : l.findIdx? p with
 | some i =>
  have : l.any p = true := by
   rw [List.findIdx?_eq_some_iff_getElem] at h
   obtain ⟨hi, hp, -⟩ := h
   exact List.any_eq_true.2 ⟨_, List.getElem_mem hi, hp⟩
  rw [this]; simp
 | none =>
  have : l.any p = false := by
   rw [List.findIdx?_eq_none_iff] at h
   rw [List.any_eq_false]
   intro x hx; simp [h x hx]
  rw [this]; rfl
theorem idxI_at {α : Type} (p : α → Bool) (l : List α) (i : Nat) (x : α) (hx : l[i]? = some x) (hp : p x = true) (hn : ∀ (j : Nat) (y : α), j < i → l[j]? = some y → p y = false) : idxI p l = i := by
 unfold idxI
 have : l.findIdx? p = some i := by
  rw [List.findIdx?_eq_some_iff_getElem]
  obtain ⟨hi, e⟩ := List.getElem?_eq_some_iff.1 hx
  refine ⟨hi, by rw [e]; exact hp, fun j hj => ?_⟩
  rw [hn j _ hj (List.getElem?_eq_getElem (by omega))]; simp
 rw [this]
theorem idxI_none {α : Type} (p : α → Bool) (l : List α) (hn : ∀ (j : Nat) (y : α), l[j]? = some y → p y = false) : idxI p l = -1 := by
 unfold idxI
 have : l.findIdx? p = none := by
  rw [List.findIdx?_eq_none_iff]
  intro x hx
  obtain ⟨j, hj⟩ := List.mem_iff_getElem?.1 hx
  exact hn j x hj
 rw [this]
theorem any_not {α : Type} (p : α → Bool) (l : List α) : (!(l.any fun x => !p x)) = l.all p := by simp [List.not_any_eq_all_not]
theorem getD_someA {α : Type} (l : List α) (d : α) {i : Nat} (h : i < l.length) : l[i]? = some (l.getD i d) := by simp [List.getD_eq_getElem?_getD, h]
theorem getD_memA {α : Type} (l : List α) (d : α) {i : Nat} (h : i < l.length) : l.getD i d ∈ l := List.mem_of_getElem? (getD_someA l d h)
theorem take_snocA {α : Type} (l : List α) (d : α) {i : Nat} (h : i < l.length) : l.take (i + 1) = l.take i ++ [l.getD i d] := by
 rw [List.take_add_one, getD_someA l d h]; rfl
theorem c61 (n lo hi : Int) (H : Hp) : Ret Try.prog 61 [I n, I lo, I hi] H (B (inB n lo hi)) H := by
 refine mk61 _ _ _ rfl (Nat.le_refl _) (.inl rfl) ?_
 simp only [vc61, real]
 repeat (with_reducible first | refine Ju.go ?_ | (refine Hd.go ?_; intro K Q hK hQ; simp only [nod_imm, Try.underlying3, e_geq, e_leq, e_gT, j_and', j_one]; subst hK hQ) | refine Jr.go ?_)
 exact end1 (fzI _)
abbrev u8V (n : Int) : V := .imm (.int .u8 n)
def bys (s : ByteArray) : List Int := s.toList.map fun b => (b.toNat : Int)
theorem u8s_bys (s : ByteArray) : u8s s = (bys s).map u8V := by unfold u8s bys; rw [List.map_map]; rfl
theorem bys_len (s : ByteArray) : (bys s).length = s.size := by unfold bys; rw [List.length_map, ByteArray.toList_eq]; rfl
theorem ix_u8 (l : List Int) (f : Fl) (i : Int) {K : V → Prop} : aIx 1 (.arr (l.map u8V) f) (I i) K = (0 ≤ i ∧ i < l.length ∧ K (.cptr (u8V (l.getD i.toNat 0)))) := e_ixE u8V 0 (fun _ => rfl) l f i
def badB (n : Int) : Bool := decide (n < 32) || decide (126 < n)
def okNm (s : ByteArray) : Bool := inB s.size 1 40 && (bys s).all fun n => !badB n
theorem c106 (n : Int) (H : Hp) : Ret Try.prog 106 [u8V n] H (B (badB n)) H := by
 refine mk106 _ rfl (Nat.le_refl _) (.inl rfl) ?_
 simp only [vc106, real]
 repeat (with_reducible first | refine Ju.go ?_ | (refine Hd.go ?_; intro K Q hK hQ; simp only [nod_imm, Try.underlying5, e_lss, e_gtr, e_gF, j_or', j_one]; subst hK hQ) | refine Jr.go ?_)
 exact end1 (fzI _)
theorem c114 (l : List Int) (H : Hp) (hl : l.length ≤ 1000000000000) : Ret Try.prog 114 [.arr (l.map u8V) .no, .fn 106 []] H (I (idxI badB l)) H := by
 refine mk114 _ _ rfl (Nat.le_refl _) (.inl rfl) ?_
 simp only [vc114, real]
 repeat (first | (with_reducible first | refine Ju.go ?_ | (refine Hd.go ?_; intro K Q hK hQ; simp only [nod_arr, nd_no, e_lenA, List.length_map]; subst hK hQ) | refine Jr.go ?_) | refine sd ?_)
 refine loop_of (fun i : Nat => i ≤ l.length ∧ ∀ (j : Nat) (y : Int), j < i → l[j]? = some y → badB y = false) (fun i => [.arr (l.map u8V) .no, .fn 106 [], I l.length, I i]) (fun _ => H) (fun i => l.length - i) 0 ⟨Nat.zero_le _, fun j y h => absurd h (Nat.not_lt_zero _)⟩ rfl rfl ?_
 intro i ⟨hi, hp⟩
 repeat (first | (with_reducible first | refine Ju.go ?_ | (refine Hd.go ?_; intro K Q hK hQ; simp only [List.getD_cons_succ, List.getD_cons_zero, nod_imm, Try.underlying3, e_lss, e_cond, decide_eq_true_eq]; subst hK hQ) | refine Jr.go ?_) | refine sd ?_)
 by_cases hlt : i < l.length
 ·have d : (i : Int) < l.length := by omega
  repeat (first | (with_reducible first | refine Ju.go ?_ | (refine Hd.go ?_; intro K Q hK hQ; simp only [d, if_true, List.getD_cons_zero, nod_arr, nd_no, List.getD_cons_succ, nod_imm, ix_u8, Int.toNat_natCast, true_and, nod_cptr, e_ldc, nod_fn, e_callEG]; subst hK hQ) | refine Jr.go ?_) | refine sd ?_)
  refine call_of (c106 _ _) ?_
  by_cases hb : badB (l.getD i 0) = true
  ·rw [hb]
   repeat (first | (with_reducible first | refine Ju.go ?_ | (refine Hd.go ?_; intro K Q hK hQ; simp only [nod_imm, e_cond, if_true]; subst hK hQ) | refine Jr.go ?_) | refine sd ?_)
   rw [idxI_at badB l i _ (getD_some l hlt) hb hp]
   exact end1 (fzI _)
  ·rw [Bool.eq_false_iff.2 hb]
   repeat (first | (with_reducible first | refine Ju.go ?_ | (refine Hd.go ?_; intro K Q hK hQ; simp only [nod_imm, e_cond, Bool.false_eq_true, if_false, List.getD_cons_succ, List.getD_cons_zero, Try.underlying3, e_add]; subst hK hQ) | refine Jr.go ?_) | refine sd ?_)
   refine ⟨i + 1, ⟨by omega, fun j y hj hy => ?_⟩, rfl, rfl, by omega⟩
   by_cases e : j = i
   ·subst e
    rw [getD_some l hlt] at hy
    cases hy
    exact Bool.eq_false_iff.2 hb
   ·exact hp j y (by omega) hy
 ·have d : ¬ (i : Int) < l.length := by omega
  repeat (first | (with_reducible first | refine Ju.go ?_ | (refine Hd.go ?_; intro K Q hK hQ; simp only [d, if_false]; subst hK hQ) | refine Jr.go ?_) | refine sd ?_)
  rw [idxI_none badB l (fun j y hy => hp j y (by have := (List.getElem?_eq_some_iff.1 hy).1; omega) hy)]
  exact end1 (fzI _)
theorem c105 (l : List Int) (H : Hp) (hl : l.length ≤ 1000000000000) : Ret Try.prog 105 [.arr (l.map u8V) .no, .fn 106 []] H (B (l.any badB)) H := by
 refine mk105 _ _ rfl (Nat.le_refl _) (.inl rfl) ?_
 simp only [vc105, real]
 repeat (first | (with_reducible first | refine Ju.go ?_ | (refine Hd.go ?_; intro K Q hK hQ; simp only [nod_arr, nd_no, nod_fn]; subst hK hQ) | refine Jr.go ?_) | refine sd ?_)
 refine call_of (c114 l H hl) ?_
 repeat (first | (with_reducible first | refine Ju.go ?_ | (refine Hd.go ?_; intro K Q hK hQ; simp only [nod_imm, Try.underlying3, e_geq, idxI_any]; subst hK hQ) | refine Jr.go ?_) | refine sd ?_)
 exact end1 (fzI _)
theorem c91 (s : ByteArray) (H : Hp) : Ret Try.prog 91 [T s] H (B (okNm s)) H := by
 refine mk91 _ rfl (Nat.le_refl _) (.inl rfl) ?_
 simp only [vc91, real]
 repeat (first | (with_reducible first | refine Ju.go ?_ | (refine Hd.go ?_; intro K Q hK hQ; simp only [nod_imm, e_tlen]; subst hK hQ) | refine Jr.go ?_) | refine sd ?_)
 refine call_of (c61 _ _ _ _) ?_
 repeat (first | (with_reducible first | refine Ju.go ?_ | (refine Hd.go ?_; intro K Q hK hQ; simp only [nod_imm, e_tb, nod_arr, nd_no, e_gT]; subst hK hQ) | refine Jr.go ?_) | refine sd ?_)
 by_cases h : inB s.size 1 40 = true
 ·have h1 := inB_iff.1 h
  rw [h]
  repeat (first | (with_reducible first | refine Ju.go ?_ | (refine Hd.go ?_; intro K Q hK hQ; simp only [cond_true, u8s_bys]; subst hK hQ) | refine Jr.go ?_) | refine sd ?_)
  refine call_of (c105 (bys s) _ (by rw [bys_len]; omega)) ?_
  repeat (first | (with_reducible first | refine Ju.go ?_ | (refine Hd.go ?_; intro K Q hK hQ; simp only [nod_imm, e_not]; subst hK hQ) | refine Jr.go ?_) | refine sd ?_)
  have : okNm s = !((bys s).any badB) := by
   unfold okNm
   rw [h, Bool.true_and]
   simp [List.not_any_eq_all_not]
  rw [this]
  exact end1 (fzI _)
 ·have : okNm s = false := by unfold okNm; rw [Bool.eq_false_iff.2 h]; rfl
  rw [this, Bool.eq_false_iff.2 h]
  repeat (first | (with_reducible first | refine Ju.go ?_ | (refine Hd.go ?_; intro K Q hK hQ; simp only [cond_false]; subst hK hQ) | refine Jr.go ?_) | refine sd ?_)
  exact end1 (fzI _)
structure Sgn where
 a : Int
 n : ByteArray
deriving Inhabited, DecidableEq
structure Spc where
 vo : Int
 us : Int
 sm : List Int
 pe : List Int
 sg : List Sgn
 ef : Int
deriving Inhabited, DecidableEq
structure Nw where
 k : Int
 a : Int
 p : Int
 n : ByteArray
deriving Inhabited, DecidableEq
abbrev sgV (g : Sgn) : V := .agg [I g.a, T g.n]
abbrev spV (p : Spc) : V := .agg [I p.vo, I p.us, ints p.sm .no, ints p.pe .no, .arr (p.sg.map sgV) .no, I p.ef]
abbrev nwV (x : Nw) : V := .agg [I x.k, I x.a, I x.p, T x.n]
theorem ix_sg (l : List Sgn) (f : Fl) (i : Int) {K : V → Prop} : aIx 2 (.arr (l.map sgV) f) (I i) K = (0 ≤ i ∧ i < l.length ∧ K (.cptr (sgV (l.getD i.toNat default)))) := e_ixE sgV default (fun _ => rfl) l f i
structure Sm (p : Spc) : Prop where
 sm : p.sm.length ≤ 9223372036854775807
 pe : p.pe.length ≤ 9223372036854775807
 sg : p.sg.length ≤ 9223372036854775807
 nm : ∀ g, g ∈ p.sg → g.n.size ≤ 9223372036854775807
theorem lv59 : lvT Try.prog 10000 59 = some [.int, .int, .int, .str] := by kernel_rfl
theorem gd59 : Try.prog.eqGuardType Try.prog.depth 59 = false := by kernel_rfl
theorem lf59 (x y : Nw) : lfL [.int, .int, .int, .str] [I x.k, I x.a, I x.p, T x.n] [I y.k, I y.a, I y.p, T y.n] = some (decide (x = y)) := by
 cases x; cases y
 simp [lfL, lfE, ba_beq, Bool.decide_and]
theorem eq59 {K : V → Prop} (x y : Nw) : aEqS Try.prog 59 .eql (nwV x) (nwV y) K = K (B (decide (x = y))) := by
 refine propext ⟨fun ⟨ls, r, h1, h2, h3, h4⟩ => ?_, fun h => ⟨_, _, lv59, lf59 x y, gd59, h⟩⟩
 obtain rfl : ls = _ := Option.some.inj (h1.symm.trans lv59)
 obtain rfl : r = _ := Option.some.inj (h2.symm.trans (lf59 x y))
 exact h4
theorem eq_take {α : Type} [DecidableEq α] (a b : List α) (d : α) {i : Nat} (h1 : i < a.length) (h2 : i < b.length) (h : a.take i = b.take i) (he : a.getD i d = b.getD i d) : a.take (i + 1) = b.take (i + 1) := by
 rw [take_snocA a d h1, take_snocA b d h2, h, he]
theorem ne_at {α : Type} (a b : List α) (d : α) {i : Nat} (he : a.getD i d ≠ b.getD i d) : a ≠ b := fun h => he (by rw [h])
theorem c24 (a b : List Int) (f g : Fl) (H : Hp) (ha : a.length ≤ 1000000000000000) (hf : f = .no ∨ f = .full) (hg : g = .no ∨ g = .full) : Ret Try.prog 24 [ints a f, ints b g] H (B (decide (a = b))) H := by
 have nf : (ints a f).nod = ints a f := by rcases hf with rfl | rfl <;> rfl
 have ng : (ints b g).nod = ints b g := by rcases hg with rfl | rfl <;> rfl
 refine mk24 _ _ rfl (Nat.le_refl _) (.inl rfl) ?_
 simp only [vc24, real]
 repeat (first | (with_reducible first | refine Ju.go ?_ | (refine Hd.go ?_; intro K Q hK hQ; simp only [nf, e_len, ng, nod_imm, Try.underlying3, e_neq, e_cond, Bool.not_eq_true', decide_eq_false_iff_not]; subst hK hQ) | refine Jr.go ?_) | refine sd ?_)
 by_cases hl : a.length = b.length
 ·have dl : (a.length : Int) = b.length := by omega
  repeat (first | (with_reducible first | refine Ju.go ?_ | (refine Hd.go ?_; intro K Q hK hQ; simp only [dl, not_true_eq_false, if_false]; subst hK hQ) | refine Jr.go ?_) | refine sd ?_)
  refine loop_of (fun i : Nat => i ≤ a.length ∧ a.take i = b.take i) (fun i => [ints a f, ints b g, I i]) (fun _ => H) (fun i => a.length - i) 0 ⟨Nat.zero_le _, rfl⟩ rfl rfl ?_
  intro i ⟨hi, hp⟩
  repeat (first | (with_reducible first | refine Ju.go ?_ | (refine Hd.go ?_; intro K Q hK hQ; simp only [List.getD_cons_zero, nf, e_len, List.getD_cons_succ, nod_imm, Try.underlying3, e_lss, e_cond, decide_eq_true_eq]; subst hK hQ) | refine Jr.go ?_) | refine sd ?_)
  by_cases hlt : i < a.length
  ·have d : (i : Int) < b.length := by omega
   have d1 : (i : Int) < a.length := by omega
   by_cases he : a.getD i 0 = b.getD i 0
   ·repeat (first | (with_reducible first | refine Ju.go ?_ | (refine Hd.go ?_; intro K Q hK hQ; simp only [dl, d, if_true, List.getD_cons_zero, nf, List.getD_cons_succ, nod_imm, e_ix, Int.toNat_natCast, he, true_and, nod_cptr, e_ldc, ng, Try.underlying3, e_neq, decide_true, Bool.not_true, e_cond, Bool.false_eq_true, if_false, e_add]; subst hK hQ) | refine Jr.go ?_) | refine sd ?_)
    exact ⟨i + 1, ⟨by omega, eq_take a b 0 hlt (by omega) hp he⟩, rfl, rfl, by omega⟩
   ·repeat (first | (with_reducible first | refine Ju.go ?_ | (refine Hd.go ?_; intro K Q hK hQ; simp only [dl, d, if_true, List.getD_cons_zero, nf, List.getD_cons_succ, nod_imm, e_ix, Int.toNat_natCast, true_and, nod_cptr, e_ldc, ng, Try.underlying3, e_neq, he, decide_false, Bool.not_false, e_cond]; subst hK hQ) | refine Jr.go ?_) | refine sd ?_)
    rw [decide_eq_false (ne_at a b 0 he)]
    exact end1 (fzI _)
  ·have d : ¬ (i : Int) < b.length := by omega
   have d1 : ¬ (i : Int) < a.length := by omega
   repeat (first | (with_reducible first | refine Ju.go ?_ | (refine Hd.go ?_; intro K Q hK hQ; simp only [dl, d, if_false]; subst hK hQ) | refine Jr.go ?_) | refine sd ?_)
   rw [List.take_of_length_le (by omega), List.take_of_length_le (by omega)] at hp
   rw [decide_eq_true hp]
   exact end1 (fzI _)
 ·have dl : ¬ (a.length : Int) = b.length := by omega
  repeat (first | (with_reducible first | refine Ju.go ?_ | (refine Hd.go ?_; intro K Q hK hQ; simp only [dl, not_false_eq_true, if_true]; subst hK hQ) | refine Jr.go ?_) | refine sd ?_)
  rw [decide_eq_false (fun h => hl (by rw [h]))]
  exact end1 (fzI _)
def badS (n : Int) : Bool := !inB n (-32768) 32767
theorem c90 (n : Int) (H : Hp) : Ret Try.prog 90 [I n] H (B (badS n)) H := by
 refine mk90 _ rfl (Nat.le_refl _) (.inl rfl) ?_
 simp only [vc90, real]
 repeat (first | (with_reducible first | refine Ju.go ?_ | (refine Hd.go ?_; intro K Q hK hQ; simp only [nod_imm, Int.reduceNeg]; subst hK hQ) | refine Jr.go ?_) | refine sd ?_)
 refine call_of (c61 _ _ _ _) ?_
 repeat (first | (with_reducible first | refine Ju.go ?_ | (refine Hd.go ?_; intro K Q hK hQ; simp only [Int.reduceNeg, nod_imm, e_not]; subst hK hQ) | refine Jr.go ?_) | refine sd ?_)
 exact end1 (fzI _)
theorem c104 (l : List Int) (H : Hp) (hl : l.length ≤ 1000000000000) : Ret Try.prog 104 [ints l .no, .fn 90 []] H (I (idxI badS l)) H := by
 refine mk104 _ _ rfl (Nat.le_refl _) (.inl rfl) ?_
 simp only [vc104, real]
 repeat (first | (with_reducible first | refine Ju.go ?_ | (refine Hd.go ?_; intro K Q hK hQ; simp only [nod_ints, nd_no, e_len]; subst hK hQ) | refine Jr.go ?_) | refine sd ?_)
 refine loop_of (fun i : Nat => i ≤ l.length ∧ ∀ (j : Nat) (y : Int), j < i → l[j]? = some y → badS y = false) (fun i => [ints l .no, .fn 90 [], I l.length, I i]) (fun _ => H) (fun i => l.length - i) 0 ⟨Nat.zero_le _, fun j y h => absurd h (Nat.not_lt_zero _)⟩ rfl rfl ?_
 intro i ⟨hi, hp⟩
 repeat (first | (with_reducible first | refine Ju.go ?_ | (refine Hd.go ?_; intro K Q hK hQ; simp only [List.getD_cons_succ, List.getD_cons_zero, nod_imm, Try.underlying3, e_lss, e_cond, decide_eq_true_eq]; subst hK hQ) | refine Jr.go ?_) | refine sd ?_)
 by_cases hlt : i < l.length
 ·have d : (i : Int) < l.length := by omega
  repeat (first | (with_reducible first | refine Ju.go ?_ | (refine Hd.go ?_; intro K Q hK hQ; simp only [d, if_true, List.getD_cons_zero, nod_ints, nd_no, List.getD_cons_succ, nod_imm, e_ix, Int.toNat_natCast, true_and, nod_cptr, e_ldc, nod_fn, e_callEG]; subst hK hQ) | refine Jr.go ?_) | refine sd ?_)
  refine call_of (c90 _ _) ?_
  by_cases hb : badS (l.getD i 0) = true
  ·rw [hb]
   repeat (first | (with_reducible first | refine Ju.go ?_ | (refine Hd.go ?_; intro K Q hK hQ; simp only [nod_imm, e_cond, if_true]; subst hK hQ) | refine Jr.go ?_) | refine sd ?_)
   rw [idxI_at badS l i _ (getD_some l hlt) hb hp]
   exact end1 (fzI _)
  ·rw [Bool.eq_false_iff.2 hb]
   repeat (first | (with_reducible first | refine Ju.go ?_ | (refine Hd.go ?_; intro K Q hK hQ; simp only [nod_imm, e_cond, Bool.false_eq_true, if_false, List.getD_cons_succ, List.getD_cons_zero, Try.underlying3, e_add]; subst hK hQ) | refine Jr.go ?_) | refine sd ?_)
   refine ⟨i + 1, ⟨by omega, fun j y hj hy => ?_⟩, rfl, rfl, by omega⟩
   by_cases e : j = i
   ·subst e
    rw [getD_some l hlt] at hy
    cases hy
    exact Bool.eq_false_iff.2 hb
   ·exact hp j y (by omega) hy
 ·have d : ¬ (i : Int) < l.length := by omega
  repeat (first | (with_reducible first | refine Ju.go ?_ | (refine Hd.go ?_; intro K Q hK hQ; simp only [d, if_false]; subst hK hQ) | refine Jr.go ?_) | refine sd ?_)
  rw [idxI_none badS l (fun j y hy => hp j y (by have := (List.getElem?_eq_some_iff.1 hy).1; omega) hy)]
  exact end1 (fzI _)
theorem c89 (l : List Int) (H : Hp) (hl : l.length ≤ 1000000000000) : Ret Try.prog 89 [ints l .no, .fn 90 []] H (B (l.any badS)) H := by
 refine mk89 _ _ rfl (Nat.le_refl _) (.inl rfl) ?_
 simp only [vc89, real]
 repeat (first | (with_reducible first | refine Ju.go ?_ | (refine Hd.go ?_; intro K Q hK hQ; simp only [nod_ints, nd_no, nod_fn]; subst hK hQ) | refine Jr.go ?_) | refine sd ?_)
 refine call_of (c104 l H hl) ?_
 repeat (first | (with_reducible first | refine Ju.go ?_ | (refine Hd.go ?_; intro K Q hK hQ; simp only [nod_imm, Try.underlying3, e_geq, idxI_any]; subst hK hQ) | refine Jr.go ?_) | refine sd ?_)
 exact end1 (fzI _)
def okPe (p : Spc) (i : Nat) : Bool := inB (p.pe.getD i 0) 0 ((p.sm.length : Int) - 1) && !(decide (0 < (i : Int)) && decide (p.pe.getD i 0 ≤ p.pe.getD (i - 1) 0))
def okSg (p : Spc) (i : Nat) : Bool := inB (p.sg.getD i default).a 0 (p.sm.length : Int) && okNm (p.sg.getD i default).n && !(decide (0 < (i : Int)) && decide ((p.sg.getD i default).a < (p.sg.getD (i - 1) default).a))
def okHd (p : Spc) : Bool := inB p.vo 1 100 && inB p.us 1 100 && inB p.ef 0 1073741824 && decide ((p.sm.length : Int) ≤ 40000) && decide ((p.pe.length : Int) ≤ 1000) && decide ((p.sg.length : Int) ≤ 50)
def okSp (p : Spc) : Bool := okHd p && (p.sm.all fun n => !badS n) && (List.range p.pe.length).all (okPe p) && (List.range p.sg.length).all (okSg p)
theorem rg_all {n : Nat} {f : Nat → Bool} (h : ∀ j, j < n → f j = true) : (List.range n).all f = true := List.all_eq_true.2 fun j hj => h j (List.mem_range.1 hj)
theorem rg_bad {n i : Nat} {f : Nat → Bool} (hi : i < n) (h : f i = false) : (List.range n).all f = false := List.all_eq_false.2 ⟨i, List.mem_range.2 hi, by rw [h]; decide⟩
theorem c52 (p : Spc) (H : Hp) (sm : Sm p) : Ret Try.prog 52 [spV p] H (B (okSp p)) H := by
 have s1 := sm.sm
 have s2 := sm.pe
 have s3 := sm.sg
 refine mk52 _ rfl (Nat.le_refl _) (.inl rfl) ?_
 simp only [vc52, real]
 repeat (first | (with_reducible first | refine Ju.go ?_ | (refine Hd.go ?_; intro K Q hK hQ; simp only [nod_agg, List.map_cons, nodL_imm, nodL_ints, nd_no, nodL_arr, List.map_nil, e_bxI, okE_agg, lv_cons, List.length_nil, Nat.zero_add, Nat.reduceAdd, all_c, ck_I, ck_ints, ck_arr, all_n, Bool.and_self, and_true, true_and, nod_cptr, e_fac, Nat.reduceLeDiff, List.getD_cons_zero, e_ldc, nod_imm]; subst hK hQ) | refine Jr.go ?_) | refine sd ?_)
 refine call_of (c61 _ _ _ _) ?_
 repeat (first | (with_reducible first | refine Ju.go ?_ | (refine Hd.go ?_; intro K Q hK hQ; simp only [nod_imm, e_not, nod_cptr, e_fac, Nat.reduceAdd, lv_cons, List.length_nil, Nat.zero_add, Nat.reduceLeDiff, List.getD_cons_succ, List.getD_cons_zero, e_ldc, true_and, e_gF]; subst hK hQ) | refine Jr.go ?_) | refine sd ?_)
 refine jo_n (c61 _ _ _ _) ?_
 repeat (first | (with_reducible first | refine Ju.go ?_ | (refine Hd.go ?_; intro K Q hK hQ; simp only [nod_imm, nod_cptr, e_fac, Nat.reduceAdd, lv_cons, List.length_nil, Nat.zero_add, Nat.reduceLeDiff, List.getD_cons_succ, List.getD_cons_zero, e_ldc, true_and, e_gF]; subst hK hQ) | refine Jr.go ?_) | refine sd ?_)
 refine jo_n (c61 _ _ _ _) ?_
 repeat (first | (with_reducible first | refine Ju.go ?_ | (refine Hd.go ?_; intro K Q hK hQ; simp only [nod_imm, nod_cptr, Try.underlying3, e_fac, Nat.reduceAdd, lv_cons, List.length_nil, Nat.zero_add, Nat.reduceLeDiff, List.getD_cons_succ, List.getD_cons_zero, e_ldci, nod_ints, nd_no, e_len, e_gtr, true_and, e_gF, j_or', j_one, e_ldcV, nod_arr, e_lenA, List.length_map, e_cond]; subst hK hQ) | refine Jr.go ?_) | refine sd ?_)
 have e : (!inB p.vo 1 100 || !inB p.us 1 100 || !inB p.ef 0 1073741824 || decide (40000 < (p.sm.length : Int)) || decide (1000 < (p.pe.length : Int)) || decide (50 < (p.sg.length : Int))) = !okHd p := by
  unfold okHd
  simp only [Bool.not_and, ← decide_not, Int.not_le]
 cases hh : okHd p
 ·rw [hh] at e
  have : okSp p = false := by unfold okSp; rw [hh]; rfl
  rw [this]
  repeat (first | (with_reducible first | refine Ju.go ?_ | (refine Hd.go ?_; intro K Q hK hQ; simp only [e, Bool.not_false, if_true]; subst hK hQ) | refine Jr.go ?_) | refine sd ?_)
  exact end1 (fzI _)
 ·rw [hh] at e
  have hd := hh
  unfold okHd at hd
  simp only [Bool.and_eq_true, decide_eq_true_eq] at hd
  repeat (first | (with_reducible first | refine Ju.go ?_ | (refine Hd.go ?_; intro K Q hK hQ; simp only [e, Bool.not_true, Bool.false_eq_true, if_false, List.getD_cons_zero, nod_cptr, e_fac, Nat.reduceAdd, lv_cons, List.length_nil, Nat.zero_add, Nat.reduceLeDiff, List.getD_cons_succ, true_and, e_ldci, nod_ints, nd_no]; subst hK hQ) | refine Jr.go ?_) | refine sd ?_)
  refine call_of (c89 _ _ (by omega)) ?_
  cases hb : p.sm.any badS
  ·have hall : (p.sm.all fun n => !badS n) = true := by rw [← any_not, ← Bool.not_false, ← hb]; simp
   repeat (first | (with_reducible first | refine Ju.go ?_ | (refine Hd.go ?_; intro K Q hK hQ; simp only [nod_imm, e_cond, Bool.false_eq_true, if_false, List.getD_cons_zero, nod_cptr, e_fac, Nat.reduceAdd, lv_cons, List.length_nil, Nat.zero_add, Nat.reduceLeDiff, List.getD_cons_succ, true_and, e_ldci, nod_ints, nd_no, e_len]; subst hK hQ) | refine Jr.go ?_) | refine sd ?_)
   refine loop_of (fun i : Nat => i ≤ p.pe.length ∧ ∀ j, j < i → okPe p j = true) (fun i => [.cptr (spV p), ints p.pe .no, I p.pe.length, I i]) (fun _ => H) (fun i => p.pe.length - i) 0 ⟨Nat.zero_le _, fun j hj => absurd hj (Nat.not_lt_zero _)⟩ rfl rfl ?_
   intro i ⟨hi, hp⟩
   repeat (first | (with_reducible first | refine Ju.go ?_ | (refine Hd.go ?_; intro K Q hK hQ; simp only [List.getD_cons_succ, List.getD_cons_zero, nod_imm, Try.underlying3, e_lss, e_cond, decide_eq_true_eq]; subst hK hQ) | refine Jr.go ?_) | refine sd ?_)
   by_cases hlt : i < p.pe.length
   ·have d : (i : Int) < p.pe.length := by omega
    repeat (first | (with_reducible first | refine Ju.go ?_ | (refine Hd.go ?_; intro K Q hK hQ; simp only [d, if_true, List.getD_cons_succ, List.getD_cons_zero, nod_ints, nd_no, nod_imm, e_ix, Int.toNat_natCast, true_and, nod_cptr, e_ldc, e_fac, Nat.reduceAdd, lv_cons, List.length_nil, Nat.zero_add, Nat.reduceLeDiff, e_ldci, e_len, Try.underlying3, e_sub]; subst hK hQ) | refine Jr.go ?_) | refine sd ?_)
    refine call_of (c61 _ _ _ _) ?_
    by_cases h0 : 0 < (i : Int)
    ·have ei : ((i : Int) - 1).toNat = i - 1 := by omega
     repeat (first | (with_reducible first | refine Ju.go ?_ | (refine Hd.go ?_; intro K Q hK hQ; simp only [nod_imm, e_not, List.getD_cons_succ, List.getD_cons_zero, Try.underlying3, nod_cptr, nod_nod, e_sub, e_fac, Nat.reduceAdd, lv_cons, List.length_nil, Nat.zero_add, Nat.reduceLeDiff, e_ldci, nod_ints, nd_no, e_ix, ei, e_ldc, e_leq, true_and, e_gtr, h0, decide_true, e_gT, cond_true, e_gF, j_fl, j_or', j_side, j_one, e_cond]; subst hK hQ) | refine Jr.go ?_) | refine sd ?_)
     have e2 : (!inB (p.pe.getD i 0) 0 ((p.sm.length : Int) - 1) || decide (p.pe.getD i 0 ≤ p.pe.getD (i - 1) 0)) = !okPe p i := by
      unfold okPe
      rw [decide_eq_true h0]
      simp only [Bool.not_and, Bool.true_and, Bool.not_not]
     cases ho : okPe p i
     ·rw [ho] at e2
      repeat (first | (with_reducible first | refine Ju.go ?_ | (refine Hd.go ?_; intro K Q hK hQ; simp only [e2, Bool.not_false, if_true]; subst hK hQ) | refine Jr.go ?_) | refine sd ?_)
      have : okSp p = false := by unfold okSp; rw [rg_bad hlt ho]; simp
      rw [this]
      exact end1 (fzI _)
     ·rw [ho] at e2
      repeat (first | (with_reducible first | refine Ju.go ?_ | (refine Hd.go ?_; intro K Q hK hQ; simp only [e2, Bool.not_true, Bool.false_eq_true, if_false, List.getD_cons_succ, List.getD_cons_zero, nod_imm, Try.underlying3, e_add]; subst hK hQ) | refine Jr.go ?_) | refine sd ?_)
      exact ⟨i + 1, ⟨by omega, fun j hj => by
       by_cases e : j = i
       ·rw [e]; exact ho
       ·exact hp j (by omega)⟩, rfl, rfl, by omega⟩
    ·repeat (first | (with_reducible first | refine Ju.go ?_ | (refine Hd.go ?_; intro K Q hK hQ; simp only [nod_imm, e_not, List.getD_cons_succ, List.getD_cons_zero, Try.underlying3, nod_cptr, nod_nod, e_sub, e_fac, Nat.reduceAdd, lv_cons, List.length_nil, Nat.zero_add, Nat.reduceLeDiff, e_ldci, nod_ints, nd_no, e_ix, e_ldc, e_leq, true_and, e_gtr, h0, decide_false, e_gT, cond_false, e_gF, j_and', Bool.and_true, j_one, e_cond, Bool.not_eq_true']; subst hK hQ) | refine Jr.go ?_) | refine sd ?_)
     have e2 : inB (p.pe.getD i 0) 0 ((p.sm.length : Int) - 1) = okPe p i := by
      unfold okPe
      rw [decide_eq_false h0]
      simp only [Bool.false_and, Bool.not_false, Bool.and_true]
     cases ho : okPe p i
     ·rw [ho] at e2
      repeat (first | (with_reducible first | refine Ju.go ?_ | (refine Hd.go ?_; intro K Q hK hQ; simp only [e2, if_true]; subst hK hQ) | refine Jr.go ?_) | refine sd ?_)
      have : okSp p = false := by unfold okSp; rw [rg_bad hlt ho]; simp
      rw [this]
      exact end1 (fzI _)
     ·rw [ho] at e2
      repeat (first | (with_reducible first | refine Ju.go ?_ | (refine Hd.go ?_; intro K Q hK hQ; simp only [e2, Bool.true_eq_false, if_false, Bool.not_true, List.getD_cons_succ, List.getD_cons_zero, nod_imm, Try.underlying3, e_add]; subst hK hQ) | refine Jr.go ?_) | refine sd ?_)
      exact ⟨i + 1, ⟨by omega, fun j hj => by
       by_cases e : j = i
       ·rw [e]; exact ho
       ·exact hp j (by omega)⟩, rfl, rfl, by omega⟩
   ·have d : ¬ (i : Int) < p.pe.length := by omega
    obtain rfl : i = p.pe.length := by omega
    have hpe := rg_all hp
    repeat (first | (with_reducible first | refine Ju.go ?_ | (refine Hd.go ?_; intro K Q hK hQ; simp only [d, if_false, List.getD_cons_zero, nod_cptr, e_fac, Nat.reduceAdd, lv_cons, List.length_nil, Nat.zero_add, Nat.reduceLeDiff, List.getD_cons_succ, true_and, e_ldcV, nod_arr, nd_no, e_lenA, List.length_map]; subst hK hQ) | refine Jr.go ?_) | refine sd ?_)
    refine loop_of (fun q : Nat × Hp => q.1 ≤ p.sg.length ∧ (∀ j, j < q.1 → okSg p j = true) ∧ ∃ X, q.2 = H ++ X) (fun q => [.cptr (spV p), .arr (p.sg.map sgV) .no, I p.sg.length, I q.1]) (·.2) (fun q => p.sg.length - q.1) (0, H) ⟨Nat.zero_le _, fun j hj => absurd hj (Nat.not_lt_zero _), [], (List.append_nil _).symm⟩ rfl rfl ?_
    rintro ⟨k, G⟩ ⟨hk, hq, X, hG⟩
    simp only at hk hq hG ⊢
    repeat (first | (with_reducible first | refine Ju.go ?_ | (refine Hd.go ?_; intro K Q hK hQ; simp only [List.getD_cons_succ, List.getD_cons_zero, nod_imm, Try.underlying3, e_lss, e_cond, decide_eq_true_eq]; subst hK hQ) | refine Jr.go ?_) | refine sd ?_)
    by_cases hkt : k < p.sg.length
    ·have d2 : (k : Int) < p.sg.length := by omega
     have hbad : okSg p k = false → okSp p = false := fun h => by unfold okSp; rw [rg_bad hkt h]; simp
     have hgood : okSg p k = true → ∀ j, j < k + 1 → okSg p j = true := fun h j hj => by
      by_cases e : j = k
      ·rw [e]; exact h
      ·exact hq j (by omega)
     have eo : okSg p k = (inB (p.sg.getD k default).a 0 (p.sm.length : Int) && okNm (p.sg.getD k default).n && !(decide (0 < (k : Int)) && decide ((p.sg.getD k default).a < (p.sg.getD (k - 1) default).a))) := rfl
     generalize okSg p k = ok at *
     repeat (first | (with_reducible first | refine Ju.go ?_ | (refine Hd.go ?_; intro K Q hK hQ; simp only [d2, if_true, List.getD_cons_succ, List.getD_cons_zero, nod_arr, nd_no, nod_imm, ix_sg, Int.toNat_natCast, true_and, nod_cptr, e_ldcA, lv_cons, List.length_nil, Nat.zero_add, Nat.reduceAdd, e_bx, okE_agg, all_c, ck_I, ck_str, all_n, Bool.and_self, and_true, cl_agg, nod_ptr, e_sc0, Nat.reduceLeDiff, stV_agg, List.map_cons, nodL_imm, List.map_nil, spl_0, spl_n, e_fa, Nat.add_zero, e_lc0, e_fac, e_ldci, nod_ints, e_len]; subst hK hQ) | refine Jr.go ?_) | refine sd ?_)
     refine call_ofD (c61 _ _ _ _) ?_
     cases h1 : inB (p.sg.getD k default).a 0 (p.sm.length : Int)
     ·rw [h1] at eo
      repeat (first | (with_reducible first | refine Ju.go ?_ | (refine Hd.go ?_; intro K Q hK hQ; simp only [nod_imm, e_not, Bool.not_false, nod_ptr, e_fa, Nat.zero_add, e_lc0, Nat.reduceAdd, lv_cons, List.length_nil, Nat.reduceLeDiff, List.getD_cons_succ, List.getD_cons_zero, true_and, e_gF, cond_true, j_one, Try.underlying3, nod_cptr, nod_nod, e_sub, e_fac, e_ldcV, nod_arr, nd_no, Nat.add_zero, e_gtr, e_gT, j_tl, decide_eq_true_eq, e_cond, if_true]; subst hK hQ) | refine Jr.go ?_) | refine sd ?_)
      rw [hbad (by rw [eo]; rfl)]
      rw [hG, List.append_assoc]
      exact end1A (fzI _)
     ·rw [h1] at eo
      repeat (first | (with_reducible first | refine Ju.go ?_ | (refine Hd.go ?_; intro K Q hK hQ; simp only [nod_imm, e_not, Bool.not_true, nod_ptr, e_fa, Nat.zero_add, e_lc0, Nat.reduceAdd, lv_cons, List.length_nil, Nat.reduceLeDiff, List.getD_cons_succ, List.getD_cons_zero, true_and, e_gF, cond_false]; subst hK hQ) | refine Jr.go ?_) | refine sd ?_)
      refine call_ofD (c91 _ _) ?_
      cases h2 : okNm (p.sg.getD k default).n
      ·rw [h2] at eo
       repeat (first | (with_reducible first | refine Ju.go ?_ | (refine Hd.go ?_; intro K Q hK hQ; simp only [nod_imm, e_not, Bool.not_false, List.getD_cons_succ, List.getD_cons_zero, Try.underlying3, nod_ptr, nod_cptr, nod_nod, e_sub, e_fac, Nat.reduceAdd, lv_cons, List.length_nil, Nat.zero_add, Nat.reduceLeDiff, e_ldcV, nod_arr, nd_no, true_and, e_fa, Nat.add_zero, e_lc0, e_gtr, e_gT, j_tl, decide_eq_true_eq, e_gF, cond_true, j_one, e_cond, if_true]; subst hK hQ) | refine Jr.go ?_) | refine sd ?_)
       rw [hbad (by rw [eo]; rfl)]
       rw [hG, List.append_assoc]
       exact end1A (fzI _)
      ·rw [h2] at eo
       by_cases h0 : 0 < (k : Int)
       ·have ek : ((k : Int) - 1).toNat = k - 1 := by omega
        rw [decide_eq_true h0] at eo
        by_cases h3 : (p.sg.getD k default).a < (p.sg.getD (k - 1) default).a
        ·rw [decide_eq_true h3] at eo
         repeat (first | (with_reducible first | refine Ju.go ?_ | (refine Hd.go ?_; intro K Q hK hQ; simp only [nod_imm, e_not, Bool.not_true, List.getD_cons_succ, List.getD_cons_zero, Try.underlying3, nod_ptr, nod_cptr, nod_nod, e_sub, e_fac, Nat.reduceAdd, lv_cons, List.length_nil, Nat.zero_add, Nat.reduceLeDiff, e_ldcV, nod_arr, nd_no, ix_sg, ek, e_ldc, true_and, e_fa, Nat.add_zero, e_lc0, e_lss, h3, decide_true, e_gtr, h0, e_gT, cond_true, e_gF, cond_false, j_side, j_one, e_cond, if_true]; subst hK hQ) | refine Jr.go ?_) | refine sd ?_)
         rw [hbad (by rw [eo]; rfl)]
         rw [hG, List.append_assoc]
         exact end1A (fzI _)
        ·rw [decide_eq_false h3] at eo
         repeat (first | (with_reducible first | refine Ju.go ?_ | (refine Hd.go ?_; intro K Q hK hQ; simp only [nod_imm, e_not, Bool.not_true, List.getD_cons_succ, List.getD_cons_zero, Try.underlying3, nod_ptr, nod_cptr, nod_nod, e_sub, e_fac, Nat.reduceAdd, lv_cons, List.length_nil, Nat.zero_add, Nat.reduceLeDiff, e_ldcV, nod_arr, nd_no, ix_sg, ek, e_ldc, true_and, e_fa, Nat.add_zero, e_lc0, e_lss, h3, decide_false, e_gtr, h0, decide_true, e_gT, cond_true, e_gF, cond_false, j_side, j_one, e_cond, Bool.false_eq_true, if_false, e_add]; subst hK hQ) | refine Jr.go ?_) | refine sd ?_)
         exact ⟨(k + 1, _), ⟨by show k + 1 ≤ _; omega, hgood (by rw [eo]; rfl), _, by show _ = _; rw [hG, List.append_assoc]⟩, rfl, rfl, by show p.sg.length - (k + 1) < p.sg.length - k; omega⟩
       ·rw [decide_eq_false h0] at eo
        repeat (first | (with_reducible first | refine Ju.go ?_ | (refine Hd.go ?_; intro K Q hK hQ; simp only [nod_imm, e_not, Bool.not_true, List.getD_cons_succ, List.getD_cons_zero, Try.underlying3, nod_ptr, nod_cptr, nod_nod, e_sub, e_fac, Nat.reduceAdd, lv_cons, List.length_nil, Nat.zero_add, Nat.reduceLeDiff, e_ldcV, nod_arr, nd_no, true_and, e_fa, Nat.add_zero, e_lc0, e_gtr, h0, decide_false, e_gT, cond_false, e_gF, j_one, e_cond, Bool.false_eq_true, if_false, e_add]; subst hK hQ) | refine Jr.go ?_) | refine sd ?_)
        exact ⟨(k + 1, _), ⟨by show k + 1 ≤ _; omega, hgood (by rw [eo]; rfl), _, by show _ = _; rw [hG, List.append_assoc]⟩, rfl, rfl, by show p.sg.length - (k + 1) < p.sg.length - k; omega⟩
    ·have d2 : ¬ (k : Int) < p.sg.length := by omega
     obtain rfl : k = p.sg.length := by omega
     repeat (first | (with_reducible first | refine Ju.go ?_ | (refine Hd.go ?_; intro K Q hK hQ; simp only [d2, if_false]; subst hK hQ) | refine Jr.go ?_) | refine sd ?_)
     have : okSp p = true := by unfold okSp; rw [hh, hall, hpe, rg_all hq]; rfl
     rw [this, hG]
     exact end1A (fzI _)
  ·have : okSp p = false := by
    have : (p.sm.all fun n => !badS n) = false := by rw [← any_not, ← Bool.not_true, ← hb]; simp
    unfold okSp; rw [this]; simp
   rw [this]
   repeat (first | (with_reducible first | refine Ju.go ?_ | (refine Hd.go ?_; intro K Q hK hQ; simp only [nod_imm, e_cond, if_true]; subst hK hQ) | refine Jr.go ?_) | refine sd ?_)
   exact end1 (fzI _)
structure Pc where
 n : Int
 d : Int
deriving Inhabited, DecidableEq
abbrev pcV (k : Pc) : V := .agg [I k.n, I k.d]
def okPc (k : Pc) : Bool := inB k.n 1 8 && inB k.d 1 8
theorem c53 (k : Pc) (H : Hp) : Ret Try.prog 53 [pcV k] H (B (okPc k)) H := by
 refine mk53 _ rfl (Nat.le_refl _) (.inl rfl) ?_
 simp only [vc53, real]
 repeat (first | (with_reducible first | refine Ju.go ?_ | (refine Hd.go ?_; intro K Q hK hQ; simp only [nod_agg, List.map_cons, nodL_imm, List.map_nil, e_bxI, okE_agg, lv_cons, List.length_nil, Nat.zero_add, Nat.reduceAdd, all_c, ck_I, all_n, Bool.and_self, and_true, true_and, nod_cptr, e_fac, Nat.reduceLeDiff, List.getD_cons_zero, e_ldc, nod_imm]; subst hK hQ) | refine Jr.go ?_) | refine sd ?_)
 refine call_of (c61 _ _ _ _) ?_
 repeat (first | (with_reducible first | refine Ju.go ?_ | (refine Hd.go ?_; intro K Q hK hQ; simp only [nod_imm, nod_cptr, e_fac, Nat.reduceAdd, lv_cons, List.length_nil, Nat.zero_add, Nat.reduceLeDiff, List.getD_cons_succ, List.getD_cons_zero, e_ldc, true_and, e_gT]; subst hK hQ) | refine Jr.go ?_) | refine sd ?_)
 cases h : inB k.n 1 8
 ·have : okPc k = false := by unfold okPc; rw [h]; rfl
  rw [this]
  repeat (first | (with_reducible first | refine Ju.go ?_ | (refine Hd.go ?_; intro K Q hK hQ; simp only [cond_false]; subst hK hQ) | refine Jr.go ?_) | refine sd ?_)
  exact end1 (fzI _)
 ·have : okPc k = inB k.d 1 8 := by unfold okPc; rw [h]; rfl
  rw [this]
  repeat (first | (with_reducible first | refine Ju.go ?_ | (refine Hd.go ?_; intro K Q hK hQ; simp only [cond_true]; subst hK hQ) | refine Jr.go ?_) | refine sd ?_)
  refine call_of (c61 _ _ _ _) ?_
  repeat (first | (with_reducible first | refine Ju.go ?_ | (refine Hd.go ?_; intro K Q hK hQ; simp only [nod_imm]; subst hK hQ) | refine Jr.go ?_) | refine sd ?_)
  exact end1 (fzI _)
theorem flat_drop {α : Type} (f : α → List V) (s : Nat) (hf : ∀ x, (f x).length = s) : ∀ (l : List α) (i : Nat), (l.flatMap f).drop (i * s) = (l.drop i).flatMap f
 | l, 0 => by simp
 | [], i + 1 => by simp
 | x :: l, i + 1 => by
  rw [List.flatMap_cons, Nat.add_one_mul, Nat.add_comm, ← List.drop_drop, List.drop_left' (hf x), flat_drop f s hf l i]; rfl
theorem flat_take {α : Type} (f : α → List V) (s : Nat) (hf : ∀ x, (f x).length = s) : ∀ (l : List α) (i : Nat), (l.flatMap f).take (i * s) = (l.take i).flatMap f
 | l, 0 => by simp
 | [], i + 1 => by simp
 | x :: l, i + 1 => by
  rw [List.flatMap_cons, Nat.add_one_mul, Nat.add_comm, List.take_add, List.take_append_of_le_length (by rw [hf]; omega), List.take_of_length_le (by rw [hf]; omega), List.drop_append_of_le_length (by rw [hf]; omega), List.drop_of_length_le (by rw [hf]; omega), List.nil_append, flat_take f s hf l i]; rfl
theorem flat_lenF {α : Type} (f : α → List V) (s : Nat) (hf : ∀ x, (f x).length = s) (l : List α) : (l.flatMap f).length = l.length * s := by
 induction l with
 | nil => simp
 | cons x l ih => rw [List.flatMap_cons, List.length_append, hf, ih, List.length_cons, Nat.add_one_mul, Nat.add_comm]
theorem flat_at {α : Type} (f : α → List V) (s : Nat) (hf : ∀ x, (f x).length = s) (l : List α) (d : α) {i : Nat} (hi : i < l.length) : ((l.flatMap f).drop (i * s)).take s = f (l.getD i d) := by
 rw [flat_drop f s hf, List.drop_eq_getElem_cons hi, List.flatMap_cons, List.take_append_of_le_length (by rw [hf]; omega), List.take_of_length_le (by rw [hf]; omega), List.getD_eq_getElem?_getD, List.getElem?_eq_getElem hi]; rfl
theorem flat_getD {α : Type} (f : α → List V) (s : Nat) (hf : ∀ x, (f x).length = s) (l : List α) (d : α) {i k : Nat} (hi : i < l.length) (hk : k < s) : (l.flatMap f).getD (i * s + k) .junk = (f (l.getD i d)).getD k .junk := by
 rw [← flat_at f s hf l d hi, List.getD_eq_getElem?_getD, List.getD_eq_getElem?_getD, List.getElem?_take, if_pos hk, List.getElem?_drop]
theorem set_eq_app {α : Type} (l : List α) {i : Nat} (hi : i < l.length) (x : α) : l.set i x = l.take i ++ x :: l.drop (i + 1) := by
 rw [List.set_eq_take_append_cons_drop, if_pos hi]
theorem flat_set {α : Type} (f : α → List V) (s : Nat) (hf : ∀ x, (f x).length = s) (l : List α) (d : α) {i k : Nat} (hi : i < l.length) (hk : k < s) (v : V) (y : α) (hy : f y = (f (l.getD i d)).set k v) : spl (l.flatMap f) (i * s + k) [v] = (l.set i y).flatMap f := by
 have hlt : i * s + k < (l.flatMap f).length := by
  rw [flat_lenF f s hf]
  have : (i + 1) * s ≤ l.length * s := Nat.mul_le_mul_right _ hi
  rw [Nat.add_one_mul] at this
  omega
 have e1 : spl (l.flatMap f) (i * s + k) [v] = (l.flatMap f).set (i * s + k) v := by
  rw [set_eq_app _ hlt]; simp [spl]
 rw [e1, set_eq_app l hi, List.flatMap_append, List.flatMap_cons, hy, ← flat_take f s hf, ← flat_drop f s hf]
 have hle : i * s ≤ (l.flatMap f).length := by omega
 rw [← List.take_append_drop (i * s) (l.flatMap f), List.set_append_right _ _ (by rw [List.length_take]; omega)]
 rw [List.length_take, Nat.min_eq_left hle, Nat.add_sub_cancel_left, List.take_append_of_le_length (by rw [List.length_take]; omega), List.take_take, Nat.min_self]
 congr 1
 have e2 : (l.flatMap f).drop (i * s) = f (l.getD i d) ++ (l.flatMap f).drop ((i + 1) * s) := by
  rw [← flat_at f s hf l d hi, Nat.add_one_mul]
  rw [← List.drop_drop, List.take_append_drop]
 rw [List.take_append_drop, e2, List.set_append_left _ _ (by rw [hf]; exact hk)]
def Fr (H H' : Hp) (S : Nat → Prop) : Prop := H.length ≤ H'.length ∧ ∀ c, c < H.length → ¬ S c → H'[c]? = H[c]?
theorem Fr.rfl' (H : Hp) (S : Nat → Prop) : Fr H H S := ⟨Nat.le_refl _, fun _ _ _ => rfl⟩
theorem Fr.trans {H H1 H2 : Hp} {S : Nat → Prop} (h : Fr H H1 S) (k : Fr H1 H2 S) : Fr H H2 S := ⟨Nat.le_trans h.1 k.1, fun c hc hs => (k.2 c (Nat.lt_of_lt_of_le hc h.1) hs).trans (h.2 c hc hs)⟩
theorem Fr.mono {H H' : Hp} {S T : Nat → Prop} (h : Fr H H' S) (k : ∀ c, c < H.length → S c → T c) : Fr H H' T := ⟨h.1, fun c hc ht => h.2 c hc fun hs => ht (k c hc hs)⟩
theorem Fr.app (H L : Hp) (S : Nat → Prop) : Fr H (H ++ L) S := ⟨by simp, fun c hc _ => List.getElem?_append_left hc⟩
theorem Fr.set (H : Hp) (b : Nat) (x : Blk) {S : Nat → Prop} (h : S b) : Fr H (H.set b x) S := ⟨by simp, fun c hc hs => List.getElem?_set_ne (fun e => by subst e; exact hs h)⟩
theorem get_app {α : Type} {H L : List α} {k : Nat} {x : α} (h : H[k]? = some x) : (H ++ L)[k]? = some x := by
 rw [List.getElem?_append_left (List.getElem?_eq_some_iff.1 h).1]; exact h
theorem get_lt {α : Type} {H : List α} {k : Nat} {x : α} (h : H[k]? = some x) : k < H.length := (List.getElem?_eq_some_iff.1 h).1
theorem get_ne {α : Type} {H : List α} {k b : Nat} {x : α} (h : b ≠ k) : (H.set b x)[k]? = H[k]? := List.getElem?_set_ne h
structure Gn where
 vo : Int
 us : Int
 fr : Int
 un : Int
 bu : Int
deriving Inhabited, DecidableEq
structure Gr where
 g : Gn
 wd : Bool
 ud : Int
deriving Inhabited, DecidableEq
abbrev gnV (g : Gn) : V := .agg [I g.vo, I g.us, I g.fr, I g.un, I g.bu]
abbrev grC (g : Gr) : List V := [I g.g.vo, I g.g.us, I g.g.fr, I g.g.un, I g.g.bu, B g.wd, I g.ud]
theorem grC_len (g : Gr) : (grC g).length = 7 := rfl
structure GOk (g : Gr) : Prop where
 b0 : 0 ≤ g.g.bu
 b1 : g.g.bu ≤ 1099511627776
 u0 : 0 ≤ g.ud
 u1 : g.ud ≤ g.g.bu
def okGn (g : Gn) : Bool := inB g.vo 1 100 && inB g.us 0 100 && inB g.fr 0 g.un && decide (g.un ≤ 1099511627776) && inB g.bu 0 1099511627776
def prm (vo us n t : Int) (g : Gr) : Bool := !(g.wd || !decide (g.g.vo = vo) || !decide (g.g.us = 0) && !decide (g.g.us = us)) && !(decide (t < g.g.fr) || decide (g.g.un ≤ t) || decide (g.g.bu - n < g.ud))
def okAk (vo us n t : Int) : Bool := inB vo 1 100 && inB us 1 100 && inB n 0 1099511627776 && inB t 0 1099511627776
def fnd (gs : List Gr) (vo us n t : Int) : Int := idxI (prm vo us n t) gs
def grV (g : Nat) (gs : List Gr) : V := if gs = [] then .arr [] .full else .sl g 0 gs.length gs.length 7
theorem grV_nod (g : Nat) (gs : List Gr) : (grV g gs).nod = grV g gs := by unfold grV; split <;> rfl
theorem grV_nodL (g : Nat) (gs : List Gr) : (grV g gs).nodL = grV g gs := by unfold grV; split <;> rfl
theorem grV_len (g : Nat) (gs : List Gr) (K : V → Prop) : aLen (grV g gs) K = K (I gs.length) := by
 unfold grV; split
 ·rename_i h; subst h; rfl
 ·rfl
theorem grV_ne (g : Nat) {gs : List Gr} (h : gs ≠ []) : grV g gs = .sl g 0 gs.length gs.length 7 := if_neg h
structure LdAt (H : Hp) (b g : Nat) (gs : List Gr) : Prop where
 c : H[b]? = some (.cells [B true, grV g gs])
 d : gs ≠ [] → H[g]? = some (.cells (gs.flatMap grC))
 ne : gs ≠ [] → g ≠ b
theorem ld_ud {H : Hp} {g : Nat} {gs : List Gr} {i : Nat} {KH : V → Hp → Prop} (h : H[g]? = some (.cells (gs.flatMap grC))) (hi : i < gs.length) : aLd 1 false false (.ptr g (i * 7 + 6)) H KH = KH (I (gs.getD i default).ud) H := by
 rw [ld_at h, flat_getD grC 7 grC_len gs default hi (by omega), flat_lenF grC 7 grC_len]
 exact propext ⟨fun h => h.2, fun h => ⟨by omega, h⟩⟩
theorem ld_gr {H : Hp} {g : Nat} {gs : List Gr} {i : Nat} {KH : V → Hp → Prop} (h : H[g]? = some (.cells (gs.flatMap grC))) (hi : i < gs.length) : aLd 7 true false (.ptr g (i * 7)) H KH = KH (.agg (grC (gs.getD i default))) H := by
 rw [ldA_at h, flat_at grC 7 grC_len gs default hi, flat_lenF grC 7 grC_len]
 exact propext ⟨fun h => h.2, fun h => ⟨by omega, h⟩⟩
theorem st_ud {H : Hp} {g : Nat} {gs : List Gr} {i : Nat} {KH : V → Hp → Prop} {x : Int} (h : H[g]? = some (.cells (gs.flatMap grC))) (hi : i < gs.length) : aSt 1 (.ptr g (i * 7 + 6)) (I x) H KH = KH .junk (H.set g (.cells ((gs.set i { gs.getD i default with ud := x }).flatMap grC))) := by
 rw [st_at h, flat_lenF grC 7 grC_len]
 have e := flat_set grC 7 grC_len gs default hi (show 6 < 7 by omega) (I x) { gs.getD i default with ud := x } rfl
 rw [show (stV (I x)).cl = [I x] from rfl, e]
 exact propext ⟨fun h => h.2.2, fun h => ⟨by omega, okE_imm _ rfl, h⟩⟩
theorem c26 (H : Hp) : RetE Try.prog 26 [] H fun v H' => v = .ptr H.length 0 ∧ H' = H ++ [.cells [B true, .arr [] .full]] := by
 refine mkE26  ?_
 simp only [vc26, real]
 repeat (first | (with_reducible first | refine Ju.go ?_ | (refine Hd.go ?_; intro K Q hK hQ; simp only [e_bd1, okE_B, Nat.zero_add, lv_cons, List.length_nil, Nat.reduceAdd, Nat.reduceLeDiff, cl_imm, spl_0, spl_n, e_bd0, true_and, nod_agg, List.map_cons, nodL_imm, nodL_arr, nd_full, List.map_nil, e_bx, okE_agg, all_c, ck_B, ck_arr, all_n, Bool.and_self, and_true, cl_agg]; subst hK hQ) | refine Jr.go ?_) | refine sd ?_)
 exact endW ⟨rfl, rfl⟩
theorem c68 (b g : Nat) (gs : List Gr) (H : Hp) (h : LdAt H b g gs) : Ret Try.prog 68 [.ptr b 0] H (B true) H := by
 refine mk68 _ rfl (Nat.le_refl _) (.inl rfl) ?_
 simp only [vc68, real]
 repeat (first | (with_reducible first | refine Ju.go ?_ | (refine Hd.go ?_; intro K Q hK hQ; simp only [nod_ptr, Try.underlying43, e_npnP, nod_imm, e_ncP, e_fa, Nat.add_zero, ld_at h.c, Nat.zero_add, lv_cons, List.length_nil, Nat.reduceAdd, Nat.reduceLeDiff, List.getD_cons_zero, true_and, e_gT, cond_true, j_one]; subst hK hQ) | refine Jr.go ?_) | refine sd ?_)
 exact end1 (fzI _)
theorem c69 (vo us n t : Int) (H : Hp) : Ret Try.prog 69 [I vo, I us, I n, I t] H (B (okAk vo us n t)) H := by
 refine mk69 _ _ _ _ rfl (Nat.le_refl _) (.inl rfl) ?_
 simp only [vc69, real]
 repeat (first | (with_reducible first | refine Ju.go ?_ | (refine Hd.go ?_; intro K Q hK hQ; simp only [nod_imm]; subst hK hQ) | refine Jr.go ?_) | refine sd ?_)
 refine call_of (c61 _ _ _ _) ?_
 repeat (first | (with_reducible first | refine Ju.go ?_ | (refine Hd.go ?_; intro K Q hK hQ; simp only [nod_imm, e_gT]; subst hK hQ) | refine Jr.go ?_) | refine sd ?_)
 refine ja_d (c61 _ _ _ _) ?_
 repeat (first | (with_reducible first | refine Ju.go ?_ | (refine Hd.go ?_; intro K Q hK hQ; simp only [nod_imm, e_gT]; subst hK hQ) | refine Jr.go ?_) | refine sd ?_)
 refine ja_d (c61 _ _ _ _) ?_
 repeat (first | (with_reducible first | refine Ju.go ?_ | (refine Hd.go ?_; intro K Q hK hQ; simp only [nod_imm, e_gT]; subst hK hQ) | refine Jr.go ?_) | refine sd ?_)
 refine ja_d (c61 _ _ _ _) ?_
 repeat (first | (with_reducible first | refine Ju.go ?_ | (refine Hd.go ?_; intro K Q hK hQ; simp only []; subst hK hQ) | refine Jr.go ?_) | refine sd ?_)
 exact end1 (fzI _)
theorem c70 (b g : Nat) (gs : List Gr) (vo us n t : Int) (H : Hp) (h : LdAt H b g gs) (hg : ∀ x, x ∈ gs → GOk x) (hn : 0 ≤ n ∧ n ≤ 1099511627776) (hl : gs.length ≤ 1000000) : Ret Try.prog 70 [.ptr b 0, I vo, I us, I n, I t] H (I (fnd gs vo us n t)) H := by
 refine mk70 _ _ _ _ _ rfl (Nat.le_refl _) (.inl rfl) ?_
 simp only [vc70, real]
 repeat (first | (with_reducible first | refine Ju.go ?_ | (refine Hd.go ?_; intro K Q hK hQ; simp only [nod_ptr, e_ncP, e_fa, Nat.zero_add, ld_at h.c, Nat.reduceAdd, lv_cons, List.length_nil, Nat.reduceLeDiff, List.getD_cons_succ, List.getD_cons_zero, grV_nod, true_and, grV_len]; subst hK hQ) | refine Jr.go ?_) | refine sd ?_)
 refine loop_of (fun q : Nat × Hp => q.1 ≤ gs.length ∧ (∀ (j : Nat) (y : Gr), j < q.1 → gs[j]? = some y → prm vo us n t y = false) ∧ ∃ X, q.2 = H ++ X) (fun q => [I vo, I us, I n, I t, I (-1), grV g gs, I gs.length, I q.1]) (·.2) (fun q => gs.length - q.1) (0, H) ⟨Nat.zero_le _, fun j y hj => absurd hj (Nat.not_lt_zero _), [], (List.append_nil _).symm⟩ rfl rfl ?_
 rintro ⟨i, G⟩ ⟨hi, hq, X, hG⟩
 simp only at hi hq hG ⊢
 repeat (first | (with_reducible first | refine Ju.go ?_ | (refine Hd.go ?_; intro K Q hK hQ; simp only [Int.reduceNeg, List.getD_cons_succ, List.getD_cons_zero, nod_imm, Try.underlying3, e_lss, e_cond, decide_eq_true_eq]; subst hK hQ) | refine Jr.go ?_) | refine sd ?_)
 by_cases hlt : i < gs.length
 ·have d : (i : Int) < gs.length := by omega
  have hne : gs ≠ [] := fun e => by rw [e] at hlt; simp at hlt
  have hGg : G[g]? = some (.cells (gs.flatMap grC)) := by rw [hG]; exact get_app (h.d hne)
  have hok := hg _ (getD_memA gs default hlt)
  have hb := hok.b1
  have hb0 := hok.b0
  have gv := grV_ne g hne
  have hat : gs[i]? = some (gs.getD i default) := getD_someA gs default hlt
  have hun : prm vo us n t (gs.getD i default) = (!((gs.getD i default).wd || !decide ((gs.getD i default).g.vo = vo) || !decide ((gs.getD i default).g.us = 0) && !decide ((gs.getD i default).g.us = us)) && !(decide (t < (gs.getD i default).g.fr) || decide ((gs.getD i default).g.un ≤ t) || decide ((gs.getD i default).g.bu - n < (gs.getD i default).ud))) := rfl
  have hnext : prm vo us n t (gs.getD i default) = false → ∀ (j : Nat) (y : Gr), j < i + 1 → gs[j]? = some y → prm vo us n t y = false := fun hp j y hj hy => by
   by_cases e : j = i
   ·subst e
    rw [hat] at hy
    cases hy
    exact hp
   ·exact hq j y (by omega) hy
  cases h1 : ((gs.getD i default).wd || !decide ((gs.getD i default).g.vo = vo) || !decide ((gs.getD i default).g.us = 0) && !decide ((gs.getD i default).g.us = us))
  ·rw [h1] at hun
   repeat (first | (with_reducible first | refine Ju.go ?_ | (refine Hd.go ?_; intro K Q hK hQ; simp only [d, if_true, Int.reduceNeg, gv, List.getD_cons_succ, List.getD_cons_zero, nod_sl, nod_imm, e_ixS, Int.toNat_natCast, Nat.zero_add, true_and, nod_ptr, ld_gr hGg hlt, e_bx, okE_agg, lv_cons, List.length_nil, Nat.reduceAdd, all_c, ck_I, ck_B, all_n, Bool.and_self, and_true, cl_agg, e_sc0, Nat.reduceLeDiff, stV_agg, List.map_cons, nodL_imm, List.map_nil, spl_0, spl_n, e_fa, e_lc0, Try.underlying3, Nat.add_zero, e_neq, e_gF, j_or', j_one, nod_nod, e_gT, j_and', h1, e_cond, Bool.false_eq_true, if_false, e_lss, e_geq, e_sub, e_gtr, j_fl, j_side]; subst hK hQ) | refine Jr.go ?_) | refine sd ?_)
   cases h2 : (decide (t < (gs.getD i default).g.fr) || decide ((gs.getD i default).g.un ≤ t) || decide ((gs.getD i default).g.bu - n < (gs.getD i default).ud))
   ·rw [h2] at hun
    repeat (first | (with_reducible first | refine Ju.go ?_ | (refine Hd.go ?_; intro K Q hK hQ; simp only [Bool.false_eq_true, if_false]; subst hK hQ) | refine Jr.go ?_) | refine sd ?_)
    have : fnd gs vo us n t = i := idxI_at _ _ i _ hat hun hq
    rw [this, hG, List.append_assoc]
    exact end1A (fzI _)
   ·rw [h2] at hun
    repeat (first | (with_reducible first | refine Ju.go ?_ | (refine Hd.go ?_; intro K Q hK hQ; simp only [if_true, Int.reduceNeg, List.getD_cons_succ, List.getD_cons_zero, nod_imm, Try.underlying3, e_add]; subst hK hQ) | refine Jr.go ?_) | refine sd ?_)
    exact ⟨(i + 1, _), ⟨by show i + 1 ≤ _; omega, hnext hun, _, by show _ = _; rw [hG, List.append_assoc]⟩, by rw [gv]; rfl, rfl, by show gs.length - (i + 1) < gs.length - i; omega⟩
  ·rw [h1] at hun
   repeat (first | (with_reducible first | refine Ju.go ?_ | (refine Hd.go ?_; intro K Q hK hQ; simp only [d, if_true, Int.reduceNeg, gv, List.getD_cons_succ, List.getD_cons_zero, nod_sl, nod_imm, e_ixS, Int.toNat_natCast, Nat.zero_add, true_and, nod_ptr, ld_gr hGg hlt, e_bx, okE_agg, lv_cons, List.length_nil, Nat.reduceAdd, all_c, ck_I, ck_B, all_n, Bool.and_self, and_true, cl_agg, e_sc0, Nat.reduceLeDiff, stV_agg, List.map_cons, nodL_imm, List.map_nil, spl_0, spl_n, e_fa, e_lc0, Try.underlying3, Nat.add_zero, e_neq, e_gF, j_or', j_one, nod_nod, e_gT, j_and', h1, e_cond, e_add]; subst hK hQ) | refine Jr.go ?_) | refine sd ?_)
   exact ⟨(i + 1, _), ⟨by show i + 1 ≤ _; omega, hnext hun, _, by show _ = _; rw [hG, List.append_assoc]⟩, by rw [gv]; rfl, rfl, by show gs.length - (i + 1) < gs.length - i; omega⟩
 ·have d : ¬ (i : Int) < gs.length := by omega
  repeat (first | (with_reducible first | refine Ju.go ?_ | (refine Hd.go ?_; intro K Q hK hQ; simp only [d, if_false]; subst hK hQ) | refine Jr.go ?_) | refine sd ?_)
  have : fnd gs vo us n t = -1 := idxI_none _ _ (fun j y hy => hq j y (by have := (List.getElem?_eq_some_iff.1 hy).1; omega) hy)
  rw [this, hG]
  exact end1A (fzI _)
def killG (H : Hp) (g : Nat) (gs : List Gr) : Hp := if gs = [] then H else H.set g .dead
theorem killG_len (H : Hp) (g : Nat) (gs : List Gr) : (killG H g gs).length = H.length := by unfold killG; split <;> simp
theorem killG_ne (H : Hp) (g : Nat) (gs : List Gr) {c : Nat} (h : gs ≠ [] → g ≠ c) : (killG H g gs)[c]? = H[c]? := by
 unfold killG; split
 ·rfl
 ·rename_i hn; exact get_ne (h hn)
theorem grC_ck (x : Gr) : ∀ c, c ∈ grC x → cellOk c = true := by
 intro c hc
 simp only [List.mem_cons, List.not_mem_nil, or_false] at hc
 rcases hc with rfl | rfl | rfl | rfl | rfl | rfl | rfl <;> rfl
theorem grC_nd (x : Gr) : ∀ c, c ∈ grC x → c.Nd := by
 intro c hc
 simp only [List.mem_cons, List.not_mem_nil, or_false] at hc
 rcases hc with rfl | rfl | rfl | rfl | rfl | rfl | rfl <;> rfl
theorem app_gr {H : Hp} {g : Nat} {gs : List Gr} {x : Gr} {KH : V → Hp → Prop} (h : gs ≠ [] → H[g]? = some (.cells (gs.flatMap grC))) (hl : gs.length ≤ 1000000) (k : KH (grV H.length (gs ++ [x])) (killG H g gs ++ [.cells ((gs ++ [x]).flatMap grC)])) : aAppS 7 56 (grV g gs) (.arr [.agg (grC x)] .full) H KH := by
 have hone : ∀ e, e ∈ [V.agg (grC x)] → e.cl.length = 7 ∧ ∀ c, c ∈ e.cl → cellOk c = true := fun e he => by
  simp only [List.mem_singleton] at he; subst he; exact ⟨rfl, grC_ck x⟩
 rw [grV_ne _ (show gs ++ [x] ≠ [] by simp)] at k
 by_cases hg : gs = []
 ·subst hg
  exact ⟨hone, (by show 1 * 56 ≤ _; decide), k⟩
 ·rw [grV_ne g hg]
  unfold killG at k
  rw [if_neg hg] at k
  have hle : gs.length * 7 ≤ (gs.flatMap grC).length := by rw [flat_lenF grC 7 grC_len]; exact Nat.le_refl _
  have ht : (gs.flatMap grC).take (gs.length * 7) = gs.flatMap grC := List.take_of_length_le (by rw [flat_lenF grC 7 grC_len]; exact Nat.le_refl _)
  refine ⟨List.length_pos_iff.2 hg, rfl, ?_⟩
  show (match H[g]? with | some (.cells cs) => _ | _ => False)
  rw [h hg]
  refine ⟨hle, fun c hc => ?_, hone, by simp; omega, ?_⟩
  ·rw [ht] at hc
   obtain ⟨y, -, hy⟩ := List.mem_flatMap.1 hc
   exact grC_nd y c hy
  ·rw [ht]
   rw [List.length_append, List.flatMap_append] at k
   exact k
def LdB (g : Nat) (b : Nat) (gs : List Gr) (c : Nat) : Prop := c = b ∨ c = g ∧ gs ≠ []
theorem okE_gr (x : Gr) : okE 7 (.agg (grC x)) = True := eq_true ⟨rfl, grC_ck x⟩
theorem bs_gr (a b c d e u : Int) (w : Bool) (z : V) (K : V → Prop) : aBS 7 1 z [(0, .agg [I a, I b, I c, I d, I e, B w, I u])] K = K (.arr [.agg [I a, I b, I c, I d, I e, B w, I u]] .full) := by
 have h := okE_gr ⟨⟨a, b, c, d, e⟩, w, u⟩
 simp [aBS, aPs, setP, h]
theorem grV_ok (g : Nat) (gs : List Gr) : okE 1 (grV g gs) = True := by
 unfold grV; split
 ·exact eq_true ⟨rfl, fun c hc => by simp only [V.cl, List.mem_singleton] at hc; subst hc; rfl⟩
 ·exact eq_true ⟨rfl, fun c hc => by simp only [V.cl, List.mem_singleton] at hc; subst hc; rfl⟩
theorem grV_st (g : Nat) (gs : List Gr) : stV (grV g gs) = grV g gs := by unfold grV; split <;> rfl
theorem grV_cl (g : Nat) (gs : List Gr) : (grV g gs).cl = [grV g gs] := by unfold grV; split <;> rfl
theorem c27 (b g : Nat) (gs : List Gr) (x : Gn) (H : Hp) (h : LdAt H b g gs) (hl : gs.length ≤ 500) : RetE Try.prog 27 [.ptr b 0, gnV x] H fun v H' =>
    if okGn x = true then (if gs.length < 500 then v = .tup [I gs.length, I 0] ∧ (∃ g', LdAt H' b g' (gs ++ [⟨x, false, 0⟩]) ∧ H.length ≤ g') ∧ Fr H H' (LdB g b gs) else v = .tup [I 0, I 4] ∧ H' = H) else v = .tup [I 0, I 2] ∧ H' = H := by
  have hb := get_lt h.c
  refine mkE27 _ _ ?_
  simp only [vc27, real]
  repeat (first | (with_reducible first | refine Ju.go ?_ | (refine Hd.go ?_; intro K Q hK hQ; simp only [nod_agg, List.map_cons, nodL_imm, List.map_nil, e_bxI, okE_agg, lv_cons, List.length_nil, Nat.zero_add, Nat.reduceAdd, all_c, ck_I, all_n, Bool.and_self, and_true, true_and, nod_ptr]; subst hK hQ) | refine Jr.go ?_) | refine sd ?_)
  refine call_of (c68 b g gs H h) ?_
  repeat (first | (with_reducible first | refine Ju.go ?_ | (refine Hd.go ?_; intro K Q hK hQ; simp only [nod_imm, e_not, Bool.not_true, e_cond, Bool.false_eq_true, if_false, nod_cptr, e_fac, Nat.zero_add, lv_cons, List.length_nil, Nat.reduceAdd, Nat.reduceLeDiff, List.getD_cons_zero, true_and, e_ldc]; subst hK hQ) | refine Jr.go ?_) | refine sd ?_)
  refine call_of (c61 _ _ _ _) ?_
  repeat (first | (with_reducible first | refine Ju.go ?_ | (refine Hd.go ?_; intro K Q hK hQ; simp only [nod_imm, e_not, nod_cptr, e_fac, Nat.reduceAdd, lv_cons, List.length_nil, Nat.zero_add, Nat.reduceLeDiff, List.getD_cons_succ, List.getD_cons_zero, e_ldc, true_and, e_gF]; subst hK hQ) | refine Jr.go ?_) | refine sd ?_)
  refine jo_n (c61 _ _ _ _) ?_
  repeat (first | (with_reducible first | refine Ju.go ?_ | (refine Hd.go ?_; intro K Q hK hQ; simp only [nod_imm, nod_cptr, e_fac, Nat.reduceAdd, lv_cons, List.length_nil, Nat.zero_add, Nat.reduceLeDiff, List.getD_cons_succ, List.getD_cons_zero, e_ldc, true_and, e_gF]; subst hK hQ) | refine Jr.go ?_) | refine sd ?_)
  refine jo_n (c61 _ _ _ _) ?_
  repeat (first | (with_reducible first | refine Ju.go ?_ | (refine Hd.go ?_; intro K Q hK hQ; simp only [nod_imm, nod_cptr, Try.underlying3, e_fac, Nat.reduceAdd, lv_cons, List.length_nil, Nat.zero_add, Nat.reduceLeDiff, List.getD_cons_succ, List.getD_cons_zero, e_ldc, e_gtr, true_and, e_gF, j_or', j_one]; subst hK hQ) | refine Jr.go ?_) | refine sd ?_)
  refine jo_n (c61 _ _ _ _) ?_
  have e : (!inB x.vo 1 100 || !inB x.us 0 100 || !inB x.fr 0 x.un || decide (1099511627776 < x.un) || !inB x.bu 0 1099511627776) = !okGn x := by
    unfold okGn
    simp only [Bool.not_and, ← decide_not, Int.not_le]
  cases ho : okGn x
  · rw [ho] at e
    repeat (first | (with_reducible first | refine Ju.go ?_ | (refine Hd.go ?_; intro K Q hK hQ; simp only [e, Bool.not_false, List.getD_cons_succ, List.getD_cons_zero, nod_imm, e_cond, if_true]; subst hK hQ) | refine Jr.go ?_) | refine sd ?_)
    refine endW ?_
    rw [if_neg (by decide)]
    exact ⟨rfl, rfl⟩
  · rw [ho] at e
    repeat (first | (with_reducible first | refine Ju.go ?_ | (refine Hd.go ?_; intro K Q hK hQ; simp only [e, Bool.not_true, List.getD_cons_succ, List.getD_cons_zero, nod_imm, e_cond, Bool.false_eq_true, if_false, nod_ptr, e_ncP, e_fa, Nat.zero_add, ld_at h.c, Nat.reduceAdd, lv_cons, List.length_nil, Nat.reduceLeDiff, grV_nod, true_and, grV_len, Try.underlying3, e_geq, decide_eq_true_eq]; subst hK hQ) | refine Jr.go ?_) | refine sd ?_)
    by_cases h5 : 500 ≤ (gs.length : Int)
    · repeat (first | (with_reducible first | refine Ju.go ?_ | (refine Hd.go ?_; intro K Q hK hQ; simp only [h5, if_true]; subst hK hQ) | refine Jr.go ?_) | refine sd ?_)
      refine endW ?_
      rw [if_pos rfl, if_neg (by omega)]
      exact ⟨rfl, rfl⟩
    · repeat (first | (with_reducible first | refine Ju.go ?_ | (refine Hd.go ?_; intro K Q hK hQ; simp only [h5, if_false, List.getD_cons_zero, nod_ptr, e_ncP, e_fa, Nat.zero_add, ldM_at h.c, Nat.reduceAdd, lv_cons, List.length_nil, Nat.reduceLeDiff, List.getD_cons_succ, grV_nodL, vs_s, vs_0, true_and, nod_cptr, e_ldcA, nod_agg, List.map_cons, nodL_imm, List.map_nil, e_bd1, okE_agg, all_c, ck_I, all_n, Bool.and_self, and_true, cl_agg, spl_0, spl_n, e_bd0, bs_gr, nod_arr, nd_full]; subst hK hQ) | refine Jr.go ?_) | refine sd ?_)
      have hlt : gs.length < 500 := by omega
      refine app_gr (g := g) (gs := gs) (x := ⟨x, false, 0⟩) (fun hg => by rw [get_ne (fun e => h.ne hg e.symm)]; exact h.d hg) (by omega) ?_
      have hself : H.set b (.cells [B true, grV g gs]) = H := by
        refine List.ext_getElem? fun i => ?_
        by_cases e : b = i
        · subst e; rw [List.getElem?_set_self hb]; exact h.c.symm
        · exact get_ne e
      rw [hself]
      generalize hG : killG H g gs ++ [Blk.cells ((gs ++ [(⟨x, false, 0⟩ : Gr)]).flatMap grC)] = G
      have gl : G.length = H.length + 1 := by rw [← hG]; simp [killG_len]
      have gb : G[b]? = some (.cells [B true, grV g gs]) := by
        rw [← hG, List.getElem?_append_left (by rw [killG_len]; exact hb), killG_ne H g gs h.ne]; exact h.c
      have gd : G[H.length]? = some (.cells ((gs ++ [(⟨x, false, 0⟩ : Gr)]).flatMap grC)) := by
        rw [← hG, ← killG_len H g gs]; exact tail0 _ _
      have gbl : b < G.length := by omega
      have go : ∀ c, c < H.length → ¬ LdB g b gs c → G[c]? = H[c]? := fun c hc hn => by
        rw [← hG, List.getElem?_append_left (by rw [killG_len]; exact hc), killG_ne H g gs (fun hg e => hn (.inr ⟨e.symm, hg⟩))]
      clear hG
      have elen : (((gs ++ [(⟨x, false, 0⟩ : Gr)]).length : Nat) : Int) = gs.length + 1 := by simp
      repeat (first | (with_reducible first | refine Ju.go ?_ | (refine Hd.go ?_; intro K Q hK hQ; simp only [List.getD_cons_zero, nod_ptr, e_ncP, e_fa, Nat.zero_add, st_at gb, Nat.reduceAdd, lv_cons, List.length_nil, Nat.reduceLeDiff, grV_st, grV_ok, grV_cl, spl_s, spl_0, spl_n, true_and, ldset gbl, List.getD_cons_succ, grV_nod, grV_len, elen, nod_imm, Try.underlying3, e_sub]; subst hK hQ) | refine Jr.go ?_) | refine sd ?_)
      refine endW ?_
      rw [if_pos rfl, if_pos hlt]
      refine ⟨?_, ⟨H.length, ⟨List.getElem?_set_self gbl, fun _ => by rw [get_ne (by omega)]; exact gd, fun _ => by omega⟩, Nat.le_refl _⟩, ?_⟩
      · have : ((gs.length : Int) + 1) - 1 = gs.length := by omega
        rw [this]; rfl
      · exact ⟨by rw [List.length_set]; omega, fun c hc hn => by
          rw [get_ne (fun e => hn (.inl e.symm))]; exact go c hc hn⟩
theorem LdAt.len {H : Hp} {b g : Nat} {gs : List Gr} (h : LdAt H b g gs) : b < H.length ∧ (gs ≠ [] → g < H.length) := ⟨get_lt h.c, fun e => get_lt (h.d e)⟩
theorem LdAt.fr {H H' : Hp} {b g : Nat} {gs : List Gr} {S : Nat → Prop} (h : LdAt H b g gs) (k : Fr H H' S) (hs : ∀ c, LdB g b gs c → ¬ S c) : LdAt H' b g gs :=
 ⟨by rw [k.2 b h.len.1 (hs b (.inl rfl))]; exact h.c, fun e => by rw [k.2 g (h.len.2 e) (hs g (.inr ⟨rfl, e⟩))]; exact h.d e, h.ne⟩
theorem fnd_rng (gs : List Gr) (vo us n t : Int) : fnd gs vo us n t = -1 ∨ ∃ i : Nat, fnd gs vo us n t = i ∧ i < gs.length ∧ prm vo us n t (gs.getD i default) = true := by
 unfold fnd idxI
 cases h : gs.findIdx? (prm vo us n t) with
 | none => exact .inl rfl
 | some i =>
  right
  rw [List.findIdx?_eq_some_iff_getElem] at h
  obtain ⟨hi, hp, -⟩ := h
  refine ⟨i, rfl, hi, ?_⟩
  rw [List.getD_eq_getElem?_getD, List.getElem?_eq_getElem hi]; exact hp
def tkG (gs : List Gr) (vo us n t : Int) : List Gr := if fnd gs vo us n t < 0 then gs else gs.set (fnd gs vo us n t).toNat { gs.getD (fnd gs vo us n t).toNat default with ud := (gs.getD (fnd gs vo us n t).toNat default).ud + n }
def tkH (H : Hp) (g : Nat) (gs : List Gr) (vo us n t : Int) : Hp := if fnd gs vo us n t < 0 then H else H.set g (.cells ((tkG gs vo us n t).flatMap grC))
theorem c30 (b g : Nat) (gs : List Gr) (vo us n t : Int) (H : Hp) (h : LdAt H b g gs) (hg : ∀ x, x ∈ gs → GOk x) (hl : gs.length ≤ 1000000) : RetE Try.prog 30 [.ptr b 0, I vo, I us, I n, I t] H fun v H' =>
    if okAk vo us n t = true then v = .tup [I (if fnd gs vo us n t < 0 then 0 else fnd gs vo us n t), I (if fnd gs vo us n t < 0 then 8 else 0)] ∧ LdAt H' b g (tkG gs vo us n t) ∧ Fr H H' (LdB g b gs) ∧ H' = tkH H g gs vo us n t else v = .tup [I 0, I 2] ∧ H' = H := by
  have hb := get_lt h.c
  refine mkE30 _ _ _ _ _ ?_
  simp only [vc30, real]
  repeat (first | (with_reducible first | refine Ju.go ?_ | (refine Hd.go ?_; intro K Q hK hQ; simp only [nod_ptr]; subst hK hQ) | refine Jr.go ?_) | refine sd ?_)
  refine call_of (c68 b g gs H h) ?_
  repeat (first | (with_reducible first | refine Ju.go ?_ | (refine Hd.go ?_; intro K Q hK hQ; simp only [nod_imm, e_not, Bool.not_true, e_cond, Bool.false_eq_true, if_false]; subst hK hQ) | refine Jr.go ?_) | refine sd ?_)
  refine call_of (c69 _ _ _ _ _) ?_
  cases ho : okAk vo us n t
  · repeat (first | (with_reducible first | refine Ju.go ?_ | (refine Hd.go ?_; intro K Q hK hQ; simp only [nod_imm, e_not, Bool.not_false, List.getD_cons_succ, List.getD_cons_zero, e_cond, if_true]; subst hK hQ) | refine Jr.go ?_) | refine sd ?_)
    refine endW ?_
    rw [if_neg (by decide)]
    exact ⟨rfl, rfl⟩
  · have hn : 0 ≤ n ∧ n ≤ 1099511627776 := by
      unfold okAk at ho
      simp only [Bool.and_eq_true] at ho
      exact inB_iff.1 ho.1.2
    repeat (first | (with_reducible first | refine Ju.go ?_ | (refine Hd.go ?_; intro K Q hK hQ; simp only [nod_imm, e_not, Bool.not_true, List.getD_cons_succ, List.getD_cons_zero, e_cond, Bool.false_eq_true, if_false, nod_ptr]; subst hK hQ) | refine Jr.go ?_) | refine sd ?_)
    refine call_of (c70 b g gs vo us n t H h hg hn hl) ?_
    unfold tkH tkG
    rcases fnd_rng gs vo us n t with e | ⟨i, e, hlt, hp⟩
    · rw [e]
      have dm : (-1 : Int) < 0 := by decide
      repeat (first | (with_reducible first | refine Ju.go ?_ | (refine Hd.go ?_; intro K Q hK hQ; simp only [List.getD_cons_zero, List.getD_cons_succ, Int.reduceNeg, nod_imm, Try.underlying3, e_lss, dm, decide_true, e_cond, if_true]; subst hK hQ) | refine Jr.go ?_) | refine sd ?_)
      refine endW ?_
      rw [if_pos rfl]
      simp only [dm, if_true]
      exact ⟨rfl, h, Fr.rfl' _ _, trivial⟩
    · rw [e]
      have hne : gs ≠ [] := fun e => by rw [e] at hlt; simp at hlt
      have gv := grV_ne g hne
      have hgl := get_lt (h.d hne)
      have d : (i : Int) < gs.length := by omega
      have d0 : ¬ (i : Int) < 0 := by omega
      have hok := hg _ (getD_memA gs default hlt)
      have h1 := hok.b1
      have h2 := hok.u0
      have h3 := hok.u1
      repeat (first | (with_reducible first | refine Ju.go ?_ | (refine Hd.go ?_; intro K Q hK hQ; simp only [List.getD_cons_zero, List.getD_cons_succ, nod_imm, Try.underlying3, e_lss, d0, decide_false, e_cond, Bool.false_eq_true, if_false, nod_ptr, e_ncP, e_fa, Nat.zero_add, ld_at h.c, Nat.reduceAdd, gv, lv_cons, List.length_nil, Nat.reduceLeDiff, nod_sl, true_and, e_ixS, d, Int.toNat_natCast, ld_ud (h.d hne) hlt, e_add, st_ud (h.d hne) hlt]; subst hK hQ) | refine Jr.go ?_) | refine sd ?_)
      refine endW ?_
      rw [if_pos rfl]
      simp only [d0, if_false, Int.toNat_natCast]
      refine ⟨rfl, ⟨?_, fun _ => List.getElem?_set_self hgl, fun _ => h.ne hne⟩, Fr.set _ _ _ (.inr ⟨rfl, hne⟩), trivial⟩
      rw [get_ne (h.ne hne), h.c]
      unfold grV
      have hne2 : ∀ x, gs.set i x ≠ [] := fun x e => hne (by have := congrArg List.length e; simp at this; exact this)
      rw [if_neg hne, if_neg (hne2 _), List.length_set]
structure St3 where
 f : Int
 t : Int
 s : Bool
deriving Inhabited, DecidableEq
abbrev stV3 (x : St3) : V := .agg [I x.f, I x.t, B x.s]
def perTo (p : Spc) (i : Nat) : Int := if i + 1 < p.pe.length then p.pe.getD (i + 1) 0 else p.sm.length
def tms (k : Pc) (i : Nat) : Nat := (i + 1) * k.d.toNat / k.n.toNat - i * k.d.toNat / k.n.toNat
def seg (p : Spc) (k : Pc) (i : Nat) : List St3 := if tms k i = 0 then [⟨p.pe.getD i 0, perTo p i, false⟩] else List.replicate (tms k i) ⟨p.pe.getD i 0, perTo p i, true⟩
def fst3 (p : Spc) : Int := if 0 < p.pe.length then p.pe.getD 0 0 else p.sm.length
def strs (p : Spc) (k : Pc) : List St3 := ⟨0, fst3 p, true⟩ :: (List.range p.pe.length).flatMap (seg p k)
theorem tms_le {k : Pc} (hk : okPc k = true) (i : Nat) : tms k i ≤ 8 := by
 unfold okPc at hk
 simp only [Bool.and_eq_true, inB_iff] at hk
 unfold tms
 have hn : 0 < k.n.toNat := by omega
 have h1 : (i + 1) * k.d.toNat / k.n.toNat ≤ i * k.d.toNat / k.n.toNat + k.d.toNat := by
  rw [← Nat.add_mul_div_right _ _ hn, Nat.add_one_mul]
  refine Nat.div_le_div_right (Nat.add_le_add_left ?_ _)
  exact Nat.le_mul_of_pos_right _ hn
 omega
theorem seg_len {p : Spc} {k : Pc} (hk : okPc k = true) (i : Nat) : (seg p k i).length ≤ 8 := by
 unfold seg; split
 ·simp
 ·rw [List.length_replicate]; exact tms_le hk i
theorem segs_len {p : Spc} {k : Pc} (hk : okPc k = true) (n : Nat) : ((List.range n).flatMap (seg p k)).length ≤ 8 * n := by
 induction n with
 | zero => simp
 | succ n ih => rw [List.range_succ, List.flatMap_append, List.length_append, List.flatMap_singleton]; have := seg_len (p := p) hk n; omega
structure St3Ok (p : Spc) (x : St3) : Prop where
 a : 0 ≤ x.f
 b : x.f ≤ x.t
 c : x.t ≤ p.sm.length
theorem okSp.pe {p : Spc} (h : okSp p = true) : ∀ i, i < p.pe.length → okPe p i = true := fun i hi => by
 unfold okSp at h
 simp only [Bool.and_eq_true, List.all_eq_true] at h
 exact h.1.2 i (List.mem_range.2 hi)
theorem okSp.hd {p : Spc} (h : okSp p = true) : okHd p = true := by
 unfold okSp at h
 simp only [Bool.and_eq_true] at h
 exact h.1.1.1
theorem okSp.len {p : Spc} (h : okSp p = true) : p.sm.length ≤ 40000 ∧ p.pe.length ≤ 1000 ∧ p.sg.length ≤ 50 := by
 have := okSp.hd h
 unfold okHd at this
 simp only [Bool.and_eq_true, decide_eq_true_eq] at this
 omega
theorem okPe.rng {p : Spc} {i : Nat} (h : okPe p i = true) : 0 ≤ p.pe.getD i 0 ∧ p.pe.getD i 0 < p.sm.length ∧ (0 < i → p.pe.getD (i - 1) 0 < p.pe.getD i 0) := by
 unfold okPe at h
 simp only [Bool.and_eq_true, inB_iff, Bool.not_eq_true', Bool.and_eq_false_iff, decide_eq_false_iff_not] at h
 omega
theorem fst3_ok {p : Spc} (h : okSp p = true) : St3Ok p ⟨0, fst3 p, true⟩ := by
 unfold fst3
 by_cases hp : 0 < p.pe.length
 ·have := okPe.rng (okSp.pe h 0 hp)
  rw [if_pos hp]
  exact ⟨Int.le_refl _, by show 0 ≤ p.pe.getD 0 0; omega, by show p.pe.getD 0 0 ≤ _; omega⟩
 ·rw [if_neg hp]
  exact ⟨Int.le_refl _, by show (0 : Int) ≤ p.sm.length; omega, by show (p.sm.length : Int) ≤ _; omega⟩
theorem per_ok {p : Spc} (h : okSp p = true) {i : Nat} (hi : i < p.pe.length) (b : Bool) : St3Ok p ⟨p.pe.getD i 0, perTo p i, b⟩ := by
 have h1 := okPe.rng (okSp.pe h i hi)
 unfold perTo
 by_cases hp : i + 1 < p.pe.length
 ·have h2 := okPe.rng (okSp.pe h (i + 1) hp)
  have h3 := h2.2.2 (by omega)
  rw [Nat.add_sub_cancel] at h3
  rw [if_pos hp]
  exact ⟨h1.1, by show p.pe.getD i 0 ≤ p.pe.getD (i + 1) 0; omega, by show p.pe.getD (i + 1) 0 ≤ _; omega⟩
 ·rw [if_neg hp]
  exact ⟨h1.1, by show p.pe.getD i 0 ≤ (p.sm.length : Int); omega, by show (p.sm.length : Int) ≤ _; omega⟩
theorem bel_map {α : Type} {n : Nat} (f : α → V) (l : List α) (g : Fl) (h : ∀ a, Bel n (f a)) : Bel n (.arr (l.map f) g) := .arr _ _ fun c hc => by
 obtain ⟨a, -, rfl⟩ := List.mem_map.1 hc
 exact h a
theorem bel_sgV (n : Nat) (g : Sgn) : Bel n (sgV g) := .agg _ fun c hc => by
 simp only [List.mem_cons, List.not_mem_nil, or_false] at hc
 rcases hc with rfl | rfl <;> exact .imm _
theorem bel_spV (n : Nat) (p : Spc) : Bel n (spV p) := .agg _ fun c hc => by
 simp only [List.mem_cons, List.not_mem_nil, or_false] at hc
 rcases hc with rfl | rfl | rfl | rfl | rfl | rfl
 ·exact .imm _
 ·exact .imm _
 ·exact bel_ints _ _ _
 ·exact bel_ints _ _ _
 ·exact bel_map _ _ _ (bel_sgV n)
 ·exact .imm _
theorem c92 (p : Spc) (k : Pc) (H : Hp) : Ret Try.prog 92 [spV p, pcV k] H (.fn 107 [.cptr (spV p), .cptr (pcV k)]) H := by
 refine mk92 _ _ rfl (Nat.le_refl _) (.inl rfl) ?_
 simp only [vc92, real]
 repeat (first | (with_reducible first | refine Ju.go ?_ | (refine Hd.go ?_; intro K Q hK hQ; simp only [nod_agg, List.map_cons, nodL_imm, nodL_ints, nd_no, nodL_arr, List.map_nil, e_bxI, okE_agg, lv_cons, List.length_nil, Nat.zero_add, Nat.reduceAdd, all_c, ck_I, ck_ints, ck_arr, all_n, Bool.and_self, and_true, true_and]; subst hK hQ) | refine Jr.go ?_) | refine sd ?_)
 refine end1 (.keep _ (.fn _ _ fun c hc => ?_))
 simp only [List.mem_cons, List.not_mem_nil, or_false] at hc
 rcases hc with rfl | rfl
 ·exact .cptr _ (bel_spV _ p)
 ·exact .cptr _ (.agg _ fun c hc => by
   simp only [List.mem_cons, List.not_mem_nil, or_false] at hc
   rcases hc with rfl | rfl <;> exact .imm _)
theorem tms_eq {k : Pc} (hk : okPc k = true) {i : Nat} (hi : i < 1000) : R64 (((i : Int) + 1) * k.d) ∧ R64 ((i : Int) * k.d) ∧ R64 ((((i : Int) + 1) * k.d).tdiv k.n) ∧ R64 (((i : Int) * k.d).tdiv k.n) ∧ R64 ((((i : Int) + 1) * k.d).tdiv k.n - ((i : Int) * k.d).tdiv k.n) ∧ (((i : Int) + 1) * k.d).tdiv k.n - ((i : Int) * k.d).tdiv k.n = tms k i ∧ k.n ≠ 0 := by
 have h8 := tms_le hk i
 unfold okPc at hk
 simp only [Bool.and_eq_true, inB_iff] at hk
 obtain ⟨⟨n1, n2⟩, d1, d2⟩ := hk
 unfold tms at h8 ⊢
 obtain ⟨n, d⟩ := k
 simp only at n1 n2 d1 d2 h8 ⊢
 obtain ⟨d, rfl⟩ := Int.eq_ofNat_of_zero_le (show 0 ≤ d by omega)
 obtain ⟨n, rfl⟩ := Int.eq_ofNat_of_zero_le (show 0 ≤ n by omega)
 simp only [Int.toNat_natCast] at h8 ⊢
 have e1 : ((i : Int) + 1) * (d : Int) = (((i + 1) * d : Nat) : Int) := by rw [Int.natCast_mul]; rfl
 have e2 : (i : Int) * (d : Int) = ((i * d : Nat) : Int) := (Int.natCast_mul _ _).symm
 have b1 : (i + 1) * d ≤ 8000 := by
  have : (i + 1) * d ≤ 1000 * 8 := Nat.mul_le_mul (by omega) (by omega)
  omega
 have b2 : i * d ≤ (i + 1) * d := Nat.mul_le_mul_right _ (by omega)
 have c1 := Nat.div_le_self ((i + 1) * d) n
 have c2 := Nat.div_le_self (i * d) n
 have c3 : i * d / n ≤ (i + 1) * d / n := Nat.div_le_div_right b2
 rw [e1, e2, Int.tdiv_eq_ediv_of_nonneg (by omega), Int.tdiv_eq_ediv_of_nonneg (by omega), ← Int.natCast_ediv, ← Int.natCast_ediv]
 generalize (i + 1) * d / n = x at *
 generalize i * d / n = y at *
 unfold R64
 omega
theorem c107 (p : Spc) (k : Pc) (b : Nat) (H : Hp) (P : List St3 → Hp → Prop) (ok : okSp p = true) (hk : okPc k = true) (h0 : P [] H)
    (hs : ∀ pre x G, P pre G → St3Ok p x → pre.length ≤ 9000 → RetYE Try.prog b [stV3 x] G (fun v G' => v = B true ∧ P (pre ++ [x]) G')) :
    RetE Try.prog 107 [.yld b, .cptr (spV p), .cptr (pcV k)] H (fun _ H' => P (strs p k) H') := by
  have hl := okSp.len ok
  have hk' := hk
  unfold okPc at hk'
  simp only [Bool.and_eq_true, inB_iff] at hk'
  refine mkE107 _ _ _ ?_
  simp only [vc107, real]
  repeat (first | (with_reducible first | refine Ju.go ?_ | (refine Hd.go ?_; intro K Q hK hQ; simp only [nod_cptr, e_fac, Nat.reduceAdd, lv_cons, List.length_nil, Nat.zero_add, Nat.reduceLeDiff, List.getD_cons_succ, List.getD_cons_zero, true_and, e_ldci, nod_ints, nd_no, e_len, nod_imm, Try.underlying3, e_gtr, e_cond, decide_eq_true_eq]; subst hK hQ) | refine Jr.go ?_) | refine sd ?_)
  have e0 : (if 0 < (p.pe.length : Int) then p.pe.getD 0 0 else (p.sm.length : Int)) = fst3 p := by
    unfold fst3
    by_cases h : 0 < p.pe.length
    · rw [if_pos h, if_pos (by omega)]
    · rw [if_neg h, if_neg (by omega)]
  generalize hR : Rn _ = R
  have key : R [.yld b, .cptr (spV p), .cptr (pcV k), I p.sm.length, I (fst3 p)] H := by
    subst hR
    repeat (first | (with_reducible first | refine Ju.go ?_ | (refine Hd.go ?_; intro K Q hK hQ; simp only [List.getD_cons_succ, List.getD_cons_zero, nod_imm, e_bd1, okE_I, Nat.zero_add, lv_cons, List.length_nil, Nat.reduceAdd, Nat.reduceLeDiff, cl_imm, spl_0, spl_n, spl_s, okE_B, e_bd0, true_and, nod_nod, nod_agg, List.map_cons, nodL_imm, List.map_nil]; subst hK hQ) | refine Jr.go ?_) | refine sd ?_)
    show CallYE Try.prog b [stV3 ⟨0, fst3 p, true⟩] H _
    refine ⟨_, hs [] ⟨0, fst3 p, true⟩ H h0 (fst3_ok ok) (Nat.zero_le _), ?_⟩
    rintro v G ⟨rfl, hP⟩
    repeat (first | (with_reducible first | refine Ju.go ?_ | (refine Hd.go ?_; intro K Q hK hQ; simp only [nod_imm, e_not, Bool.not_true, e_cond, Bool.false_eq_true, if_false, List.getD_cons_succ, List.getD_cons_zero, nod_cptr, e_fac, Nat.reduceAdd, lv_cons, List.length_nil, Nat.zero_add, Nat.reduceLeDiff, true_and, e_ldci, nod_ints, nd_no, e_len]; subst hK hQ) | refine Jr.go ?_) | refine sd ?_)
    refine loop_of (fun q : Nat × Hp => q.1 ≤ p.pe.length ∧ P (⟨0, fst3 p, true⟩ :: (List.range q.1).flatMap (seg p k)) q.2) (fun q => [.yld b, .cptr (spV p), .cptr (pcV k), I p.sm.length, ints p.pe .no, I p.pe.length, I q.1]) (·.2) (fun q => p.pe.length - q.1) (0, G) ⟨Nat.zero_le _, hP⟩ rfl rfl ?_
    rintro ⟨i, G1⟩ ⟨hi, hP1⟩
    simp only at hi hP1 ⊢
    repeat (first | (with_reducible first | refine Ju.go ?_ | (refine Hd.go ?_; intro K Q hK hQ; simp only [List.getD_cons_succ, List.getD_cons_zero, nod_imm, Try.underlying3, e_lss, e_cond, decide_eq_true_eq]; subst hK hQ) | refine Jr.go ?_) | refine sd ?_)
    by_cases hlt : i < p.pe.length
    · have d : (i : Int) < p.pe.length := by omega
      repeat (first | (with_reducible first | refine Ju.go ?_ | (refine Hd.go ?_; intro K Q hK hQ; simp only [d, if_true, List.getD_cons_succ, List.getD_cons_zero, nod_ints, nd_no, nod_imm, e_ix, Int.toNat_natCast, true_and, nod_cptr, e_ldc, Try.underlying3, e_add, e_fac, Nat.reduceAdd, lv_cons, List.length_nil, Nat.zero_add, Nat.reduceLeDiff, e_ldci, e_len, e_lss, e_cond, decide_eq_true_eq]; subst hK hQ) | refine Jr.go ?_) | refine sd ?_)
      generalize hR : Rn _ = R
      have key2 : R [.yld b, .cptr (spV p), .cptr (pcV k), I p.sm.length, I i, I (p.pe.getD i 0), I (perTo p i), ints p.pe .no, I p.pe.length, I i] G1 := by
        subst hR
        obtain ⟨r1, r2, r3, r4, r5, r6, r7⟩ := tms_eq hk (i := i) (by omega)
        have r8 : R64 (tms k i : Int) := by rw [← r6]; exact r5
        repeat (first | (with_reducible first | refine Ju.go ?_ | (refine Hd.go ?_; intro K Q hK hQ; simp only [List.getD_cons_succ, List.getD_cons_zero, nod_imm, Try.underlying3, e_add, nod_cptr, e_fac, Nat.reduceAdd, lv_cons, List.length_nil, Nat.zero_add, Nat.reduceLeDiff, true_and, e_ldc, e_mul, e_quo, ne_eq, e_sub, r6, e_eql, e_bd1, okE_I, cl_imm, spl_0, spl_n, nod_nod, spl_s, okE_B, e_bd0, own0_imm, nod_agg, List.map_cons, nodL_imm, List.map_nil, e_gT]; subst hK hQ) | refine Jr.go ?_) | refine sd ?_)
        have hx := per_ok ok hlt
        have hseg : ∀ n, (⟨0, fst3 p, true⟩ :: (List.range (n + 1)).flatMap (seg p k) : List St3) = (⟨0, fst3 p, true⟩ :: (List.range n).flatMap (seg p k)) ++ seg p k n := fun n => by
          rw [List.range_succ, List.flatMap_append, List.flatMap_singleton]; rfl
        have hpl : ((⟨0, fst3 p, true⟩ :: (List.range i).flatMap (seg p k) : List St3)).length ≤ 8001 := by
          rw [List.length_cons]
          have := segs_len (p := p) hk i
          omega
        generalize hR3 : Rn _ = R3
        have key3 : ∀ u G2, u ++ List.replicate (tms k i) ⟨p.pe.getD i 0, perTo p i, true⟩ = seg p k i → P ((⟨0, fst3 p, true⟩ :: (List.range i).flatMap (seg p k)) ++ u) G2 →
            R3 [.yld b, .cptr (spV p), .cptr (pcV k), I p.sm.length, I (p.pe.getD i 0), I (perTo p i), I (tms k i), ints p.pe .no, I p.pe.length, I i] G2 := by
          intro u G2 hu hP2
          subst hR3
          have hul : u.length ≤ 8 := by
            have := seg_len (p := p) hk i
            rw [← hu, List.length_append] at this
            omega
          repeat (first | (with_reducible first | refine Ju.go ?_ | (refine Hd.go ?_; intro K Q hK hQ; simp only []; subst hK hQ) | refine Jr.go ?_) | refine sd ?_)
          refine loop_of (fun q : Nat × Hp => q.1 ≤ tms k i ∧ P ((⟨0, fst3 p, true⟩ :: (List.range i).flatMap (seg p k)) ++ u ++ List.replicate q.1 ⟨p.pe.getD i 0, perTo p i, true⟩) q.2) (fun q => [.yld b, .cptr (spV p), .cptr (pcV k), I p.sm.length, I (p.pe.getD i 0), I (perTo p i), ints p.pe .no, I p.pe.length, I i, I (tms k i), I q.1]) (·.2) (fun q => tms k i - q.1) (0, G2) ⟨Nat.zero_le _, by rw [List.replicate_zero, List.append_nil]; exact hP2⟩ rfl rfl ?_
          rintro ⟨t, G3⟩ ⟨htt, hP3⟩
          simp only at htt hP3 ⊢
          have h8 := tms_le hk i
          repeat (first | (with_reducible first | refine Ju.go ?_ | (refine Hd.go ?_; intro K Q hK hQ; simp only [List.getD_cons_succ, List.getD_cons_zero, nod_imm, Try.underlying3, e_lss, e_cond, decide_eq_true_eq]; subst hK hQ) | refine Jr.go ?_) | refine sd ?_)
          by_cases hlt2 : t < tms k i
          · have d2 : (t : Int) < (tms k i : Int) := by omega
            repeat (first | (with_reducible first | refine Ju.go ?_ | (refine Hd.go ?_; intro K Q hK hQ; simp only [d2, if_true, List.getD_cons_succ, List.getD_cons_zero, nod_imm, e_bd1, okE_I, Nat.zero_add, lv_cons, List.length_nil, Nat.reduceAdd, Nat.reduceLeDiff, cl_imm, spl_0, spl_n, spl_s, okE_B, e_bd0, true_and, nod_nod, own0_imm, nod_agg, List.map_cons, nodL_imm, List.map_nil]; subst hK hQ) | refine Jr.go ?_) | refine sd ?_)
            show CallYE Try.prog b [stV3 ⟨p.pe.getD i 0, perTo p i, true⟩] G3 _
            refine ⟨_, hs _ ⟨p.pe.getD i 0, perTo p i, true⟩ G3 hP3 (hx true) (by rw [List.length_append, List.length_append, List.length_replicate]; omega), ?_⟩
            rintro v G4 ⟨rfl, hP4⟩
            repeat (first | (with_reducible first | refine Ju.go ?_ | (refine Hd.go ?_; intro K Q hK hQ; simp only [nod_imm, e_not, Bool.not_true, e_cond, Bool.false_eq_true, if_false, List.getD_cons_succ, List.getD_cons_zero, Try.underlying3, e_add]; subst hK hQ) | refine Jr.go ?_) | refine sd ?_)
            refine ⟨(t + 1, G4), ⟨by show t + 1 ≤ _; omega, ?_⟩, rfl, rfl, by show tms k i - (t + 1) < tms k i - t; omega⟩
            show P _ G4
            rw [List.replicate_succ', ← List.append_assoc]
            exact hP4
          · have d2 : ¬ (t : Int) < (tms k i : Int) := by omega
            obtain rfl : t = tms k i := by omega
            repeat (first | (with_reducible first | refine Ju.go ?_ | (refine Hd.go ?_; intro K Q hK hQ; simp only [d2, if_false, List.getD_cons_succ, List.getD_cons_zero, nod_imm, Try.underlying3, e_add]; subst hK hQ) | refine Jr.go ?_) | refine sd ?_)
            refine ⟨(i + 1, G3), ⟨by show i + 1 ≤ _; omega, ?_⟩, rfl, rfl, by show p.pe.length - (i + 1) < p.pe.length - i; omega⟩
            show P _ G3
            rw [hseg, ← hu, ← List.append_assoc]
            exact hP3
        clear hR3
        by_cases ht : tms k i = 0
        · rw [decide_eq_true (show (tms k i : Int) = 0 by omega), cond_true]
          show CallYE Try.prog b [stV3 ⟨p.pe.getD i 0, perTo p i, false⟩] G1 _
          refine ⟨_, hs _ ⟨p.pe.getD i 0, perTo p i, false⟩ G1 hP1 (hx false) (by omega), ?_⟩
          rintro v G4 ⟨rfl, hP4⟩
          repeat (first | (with_reducible first | refine Ju.go ?_ | (refine Hd.go ?_; intro K Q hK hQ; simp only [nod_imm, e_not, Bool.not_true, e_cond, Bool.false_eq_true, if_false]; subst hK hQ) | refine Jr.go ?_) | refine sd ?_)
          exact key3 [⟨p.pe.getD i 0, perTo p i, false⟩] G4 (by unfold seg; rw [if_pos ht, ht]; rfl) hP4
        · rw [decide_eq_false (show ¬ (tms k i : Int) = 0 by omega), cond_false]
          repeat (first | (with_reducible first | refine Ju.go ?_ | (refine Hd.go ?_; intro K Q hK hQ; simp only [nod_imm, e_cond, Bool.false_eq_true, if_false]; subst hK hQ) | refine Jr.go ?_) | refine sd ?_)
          exact key3 [] G1 (by unfold seg; rw [if_neg ht]; rfl) (by rw [List.append_nil]; exact hP1)
      have e1 : (if (i : Int) + 1 < (p.pe.length : Int) then p.pe.getD (i + 1) 0 else (p.sm.length : Int)) = perTo p i := by
        unfold perTo
        by_cases h : i + 1 < p.pe.length
        · rw [if_pos h, if_pos (by omega)]
        · rw [if_neg h, if_neg (by omega)]
      have ei : ((i : Int) + 1).toNat = i + 1 := by omega
      by_cases h : (i : Int) + 1 < (p.pe.length : Int)
      · rw [← e1, if_pos h] at key2
        repeat (first | (with_reducible first | refine Ju.go ?_ | (refine Hd.go ?_; intro K Q hK hQ; simp only [h, if_true, decide_true, List.getD_cons_succ, List.getD_cons_zero, nod_cptr, e_fac, Nat.reduceAdd, lv_cons, List.length_nil, Nat.zero_add, Nat.reduceLeDiff, true_and, e_ldci, nod_imm, Try.underlying3, e_add, nod_ints, nd_no, e_ix, ei, e_ldc]; subst hK hQ) | refine Jr.go ?_) | refine sd ?_)
        exact key2
      · rw [← e1, if_neg h] at key2
        repeat (first | (with_reducible first | refine Ju.go ?_ | (refine Hd.go ?_; intro K Q hK hQ; simp only [h, if_false]; subst hK hQ) | refine Jr.go ?_) | refine sd ?_)
        exact key2
    · have d : ¬ (i : Int) < p.pe.length := by omega
      obtain rfl : i = p.pe.length := by omega
      repeat (first | (with_reducible first | refine Ju.go ?_ | (refine Hd.go ?_; intro K Q hK hQ; simp only [d, if_false]; subst hK hQ) | refine Jr.go ?_) | refine sd ?_)
      exact endW hP1
  by_cases h : 0 < (p.pe.length : Int)
  · rw [← e0, if_pos h] at key
    repeat (first | (with_reducible first | refine Ju.go ?_ | (refine Hd.go ?_; intro K Q hK hQ; simp only [h, if_true, nod_cptr, e_fac, Nat.reduceAdd, lv_cons, List.length_nil, Nat.zero_add, Nat.reduceLeDiff, List.getD_cons_succ, List.getD_cons_zero, true_and, e_ldci, nod_ints, nd_no, e_ix, e_ldc]; subst hK hQ) | refine Jr.go ?_) | refine sd ?_)
    exact key
  · rw [← e0, if_neg h] at key
    repeat (first | (with_reducible first | refine Ju.go ?_ | (refine Hd.go ?_; intro K Q hK hQ; simp only [h, if_false]; subst hK hQ) | refine Jr.go ?_) | refine sd ?_)
    exact key
def blV (s b n : Nat) : V := if n = 0 then .arr [] .full else .sl b 0 n n s
theorem blV_nod (s b n : Nat) : (blV s b n).nod = blV s b n := by unfold blV; split <;> rfl
theorem blV_nodL (s b n : Nat) : (blV s b n).nodL = blV s b n := by unfold blV; split <;> rfl
theorem blV_len (s b n : Nat) (K : V → Prop) : aLen (blV s b n) K = K (I n) := by
 unfold blV; split
 ·rename_i h; subst h; rfl
 ·rfl
theorem blV_ne (s b : Nat) {n : Nat} (h : n ≠ 0) : blV s b n = .sl b 0 n n s := if_neg h
theorem blV_ok (s b n : Nat) : okE 1 (blV s b n) = True := by
 unfold blV; split
 ·exact eq_true ⟨rfl, fun c hc => by simp only [V.cl, List.mem_singleton] at hc; subst hc; rfl⟩
 ·exact eq_true ⟨rfl, fun c hc => by simp only [V.cl, List.mem_singleton] at hc; subst hc; rfl⟩
theorem blV_st (s b n : Nat) : stV (blV s b n) = blV s b n := by unfold blV; split <;> rfl
theorem blV_cl (s b n : Nat) : (blV s b n).cl = [blV s b n] := by unfold blV; split <;> rfl
theorem blV_ck (s b n : Nat) : cellOk (blV s b n) = true := by unfold blV; split <;> rfl
def killB (H : Hp) (b n : Nat) : Hp := if n = 0 then H else H.set b .dead
theorem killB_len (H : Hp) (b n : Nat) : (killB H b n).length = H.length := by unfold killB; split <;> simp
theorem killB_ne (H : Hp) (b n : Nat) {c : Nat} (h : n ≠ 0 → b ≠ c) : (killB H b n)[c]? = H[c]? := by
 unfold killB; split
 ·rfl
 ·rename_i hn; exact get_ne (h hn)
theorem app_bl {s bytes b n : Nat} {ys cs : List V} {f : Fl} {H : Hp} {KH : V → Hp → Prop} (h0 : n = 0 → cs = []) (h : n ≠ 0 → H[b]? = some (.cells cs)) (hc : cs.length = n * s) (hn : ∀ c, c ∈ cs → c.Nd)
    (hy : ∀ e, e ∈ ys → e.cl.length = s ∧ ∀ c, c ∈ e.cl → cellOk c = true) (hb : (n + ys.length) * bytes ≤ 140737488355328)
    (k0 : n = 0 → ys = [] → KH (.arr [] .full) H) (k : n + ys.length ≠ 0 → KH (blV s H.length (n + ys.length)) (killB H b n ++ [.cells (cs ++ ys.flatMap V.cl)])) : aAppS s bytes (blV s b n) (.arr ys f) H KH := by
  by_cases hn0 : n = 0
  · subst hn0
    rw [h0 rfl] at k
    simp only [Nat.zero_add] at hb k
    refine ⟨hy, hb, ?_⟩
    cases ys with
    | nil => exact k0 rfl rfl
    | cons y ys =>
      have := k (by simp)
      rw [blV_ne s _ (by simp)] at this
      exact this
  · rw [blV_ne s b hn0]
    have k1 := k (by omega)
    rw [blV_ne s _ (by omega)] at k1
    unfold killB at k1
    rw [if_neg hn0] at k1
    refine ⟨Nat.pos_of_ne_zero hn0, rfl, ?_⟩
    show (match H[b]? with | some (.cells cs) => _ | _ => False)
    rw [h hn0]
    have ht : cs.take (n * s) = cs := List.take_of_length_le (by omega)
    refine ⟨by omega, fun c hc' => hn c (List.mem_of_mem_take hc'), hy, hb, ?_⟩
    rw [ht]
    exact k1
structure PS where
 os : List Int
 og : List Sgn
 rs : List Sgn
def sgAt (s : PS) (x : St3) (g : Sgn) : Sgn := ⟨if x.s then (s.os.length : Int) + (g.a - x.f) else s.os.length, g.n⟩
def cutS (p : Spc) (x : St3) : List Int := (p.sm.take x.t.toNat).drop x.f.toNat
def pst (p : Spc) (s : PS) (x : St3) : PS := ⟨if x.s then s.os ++ cutS p x else s.os, s.og ++ (s.rs.takeWhile fun g => decide (g.a < x.t)).map (sgAt s x), s.rs.dropWhile fun g => decide (g.a < x.t)⟩
def pc0 (p : Spc) : PS := ⟨[], [], p.sg⟩
def pcS (p : Spc) (l : List St3) : PS := l.foldl (pst p) (pc0 p)
def pacS (p : Spc) (k : Pc) : List Int := (pcS p (strs p k)).os
def pacG (p : Spc) (k : Pc) : List Sgn := (pcS p (strs p k)).og ++ (pcS p (strs p k)).rs.map fun g => ⟨((pcS p (strs p k)).os.length : Int), g.n⟩
theorem pcS_snoc (p : Spc) (l : List St3) (x : St3) : pcS p (l ++ [x]) = pst p (pcS p l) x := by unfold pcS; rw [List.foldl_append]; rfl
theorem pst_go (p : Spc) (os : List Int) (og : List Sgn) (g : Sgn) (rs : List Sgn) (x : St3) (h : g.a < x.t) : pst p ⟨os, og, g :: rs⟩ x = pst p ⟨os, og ++ [sgAt ⟨os, og, rs⟩ x g], rs⟩ x := by
 unfold pst
 simp only [List.takeWhile_cons, List.dropWhile_cons, decide_eq_true h, if_true, List.map_cons, List.append_assoc, List.singleton_append]
 rfl
theorem pst_end (p : Spc) (os : List Int) (og rs : List Sgn) (x : St3) (h : ∀ g rs', rs = g :: rs' → ¬ g.a < x.t) : pst p ⟨os, og, rs⟩ x = ⟨if x.s then os ++ cutS p x else os, og, rs⟩ := by
 unfold pst
 cases rs with
 | nil => simp
 | cons g rs' => simp [decide_eq_false (h g rs' rfl)]
theorem cutS_len (p : Spc) (x : St3) : (cutS p x).length ≤ p.sm.length := by unfold cutS; simp; omega
theorem snoc_ind {α : Type} {m : List α → Prop} (h0 : m []) (h1 : ∀ l x, m l → m (l ++ [x])) (l : List α) : m l := by
 rw [← List.reverse_reverse l]
 induction l.reverse with
 | nil => exact h0
 | cons x t ih => rw [List.reverse_cons]; exact h1 _ _ ih
theorem pcS_os (p : Spc) (l : List St3) : (pcS p l).os.length ≤ l.length * p.sm.length := by
 refine snoc_ind (m := fun l => (pcS p l).os.length ≤ l.length * p.sm.length) (by simp [pcS, pc0]) (fun l x ih => ?_) l
 ·show (pcS p (l ++ [x])).os.length ≤ (l ++ [x]).length * p.sm.length
  rw [pcS_snoc, List.length_append, List.length_singleton, Nat.add_one_mul]
  have := cutS_len p x
  unfold pst
  simp only
  split
  ·rw [List.length_append]; omega
  ·omega
theorem pcS_sg (p : Spc) (l : List St3) : (pcS p l).og.length + (pcS p l).rs.length = p.sg.length := by
 refine snoc_ind (m := fun l => (pcS p l).og.length + (pcS p l).rs.length = p.sg.length) (by simp [pcS, pc0]) (fun l x ih => ?_) l
 ·show (pcS p (l ++ [x])).og.length + (pcS p (l ++ [x])).rs.length = p.sg.length
  rw [pcS_snoc]
  unfold pst
  simp only
  rw [List.length_append, List.length_map, ← ih]
  have := congrArg List.length (List.takeWhile_append_dropWhile (p := fun g : Sgn => decide (g.a < x.t)) (l := (pcS p l).rs))
  rw [List.length_append] at this
  omega
abbrev nilP : V := .imm (.pointer none)
def nxA (R : List Nat) (i : Nat) : Nat := if i + 1 < R.length then R.getD (i + 1) 0 else R.getD 0 0
def lsA (R : List Nat) (i : Nat) : Nat := if i = 0 then R.getD (R.length - 1) 0 else R.getD (i - 1) 0
structure Ring (H : Hp) (R : List Nat) (W : List V) : Prop where
 len : W.length = R.length
 pos : 0 < R.length
 nd : R.Nodup
 at_ : ∀ i, i < R.length → H[R.getD i 0]? = some (.cells [W.getD i .junk, .ptr (nxA R i) 0, .ptr (lsA R i) 0])
theorem nodup_inj {R : List Nat} (h : R.Nodup) {i j : Nat} (hi : i < R.length) (hj : j < R.length) (e : R.getD i 0 = R.getD j 0) : i = j := by
 rw [List.getD_eq_getElem?_getD, List.getD_eq_getElem?_getD, List.getElem?_eq_getElem hi, List.getElem?_eq_getElem hj] at e
 have hp := List.pairwise_iff_getElem.1 h
 simp only [Option.getD_some] at e
 rcases Nat.lt_trichotomy i j with h1 | h1 | h1
 ·exact absurd e (hp i j hi hj h1)
 ·exact h1
 ·exact absurd e.symm (hp j i hj hi h1)
theorem getD_memN {R : List Nat} {i : Nat} (hi : i < R.length) : R.getD i 0 ∈ R := by
 rw [List.getD_eq_getElem?_getD, List.getElem?_eq_getElem hi]; exact List.getElem_mem hi
theorem getD_ins {α : Type} (l : List α) (x d : α) (i j : Nat) (hi : i ≤ l.length) : (l.take i ++ x :: l.drop i).getD j d = if j < i then l.getD j d else if j = i then x else l.getD (j - 1) d := by
 rw [List.getD_eq_getElem?_getD, List.getElem?_append]
 have hl : (l.take i).length = i := by rw [List.length_take]; omega
 rw [hl]
 by_cases h1 : j < i
 ·rw [if_pos h1, if_pos h1, List.getElem?_take, if_pos h1, List.getD_eq_getElem?_getD]
 ·rw [if_neg h1, if_neg h1]
  by_cases h2 : j = i
  ·subst h2
   rw [if_pos rfl, Nat.sub_self]; rfl
  ·rw [if_neg h2]
   obtain ⟨m, hm⟩ : ∃ m, j - i = m + 1 := ⟨j - i - 1, by omega⟩
   rw [hm, List.getElem?_cons_succ, List.getElem?_drop, List.getD_eq_getElem?_getD, show i + m = j - 1 by omega]
theorem getD_del {α : Type} (l : List α) (d : α) (i j : Nat) (hi : i < l.length) : (l.take i ++ l.drop (i + 1)).getD j d = if j < i then l.getD j d else l.getD (j + 1) d := by
 rw [List.getD_eq_getElem?_getD, List.getElem?_append]
 have hl : (l.take i).length = i := by rw [List.length_take]; omega
 rw [hl]
 by_cases h1 : j < i
 ·rw [if_pos h1, if_pos h1, List.getElem?_take, if_pos h1, List.getD_eq_getElem?_getD]
 ·rw [if_neg h1, if_neg h1, List.getElem?_drop, List.getD_eq_getElem?_getD, show i + 1 + (j - i) = j + 1 by omega]
theorem len_ins {α : Type} (l : List α) (x : α) (i : Nat) : (l.take i ++ x :: l.drop i).length = l.length + 1 := by simp; omega
theorem len_del {α : Type} (l : List α) (i : Nat) (hi : i < l.length) : (l.take i ++ l.drop (i + 1)).length = l.length - 1 := by simp; omega
theorem nodup_ins {R : List Nat} (h : R.Nodup) {x : Nat} (hx : x ∉ R) (i : Nat) : (R.take i ++ x :: R.drop i).Nodup := by
 have : (x :: (R.take i ++ R.drop i)).Nodup := by rw [List.take_append_drop]; exact List.nodup_cons.2 ⟨hx, h⟩
 exact (List.perm_middle.symm.nodup_iff).1 this
theorem nodup_del {R : List Nat} (h : R.Nodup) (i : Nat) : (R.take i ++ R.drop (i + 1)).Nodup := by
 have : List.Sublist (R.take i ++ R.drop (i + 1)) R := by
  conv => rhs; rw [← List.take_append_drop i R]
  exact List.Sublist.append (List.Sublist.refl _) (by rw [← List.drop_drop]; exact List.drop_sublist _ _)
 exact this.nodup h
def nxt (R : List Nat) (i : Nat) : Nat := if i < R.length then i else 0
theorem ins_nxA {R : List Nat} {x i : Nat} (h1 : 1 ≤ i) (hi : i ≤ R.length) {j : Nat} (hj : j ≤ R.length) : nxA (R.take i ++ x :: R.drop i) j = if j < i then (if j = i - 1 then x else nxA R j) else if j = i then R.getD (nxt R i) 0 else nxA R (j - 1) := by
 unfold nxA nxt
 rw [len_ins, getD_ins R x 0 i _ hi, getD_ins R x 0 i _ hi]
 repeat' split
 all_goals first | rfl | (exfalso; omega) | (congr 1 <;> omega)
theorem ins_lsA {R : List Nat} {x i : Nat} (h1 : 1 ≤ i) (hi : i ≤ R.length) {j : Nat} (hj : j ≤ R.length) : lsA (R.take i ++ x :: R.drop i) j = if j < i then (if j = nxt R i then x else lsA R j) else if j = i then R.getD (i - 1) 0 else (if j - 1 = nxt R i then x else lsA R (j - 1)) := by
 unfold lsA nxt
 rw [len_ins, getD_ins R x 0 i _ hi, getD_ins R x 0 i _ hi]
 repeat' split
 all_goals first | rfl | (exfalso; omega) | (congr 1 <;> omega)
theorem Ring.insert {H H' : Hp} {R : List Nat} {W : List V} (h : Ring H R W) {x i : Nat} {w : V} (hx : x ∉ R) (h1 : 1 ≤ i) (hi : i ≤ R.length)
    (hn : H'[x]? = some (.cells [w, .ptr (R.getD (nxt R i) 0) 0, .ptr (R.getD (i - 1) 0) 0]))
    (ho : ∀ k, k < R.length → H'[R.getD k 0]? = some (.cells [W.getD k .junk, .ptr (if k = i - 1 then x else nxA R k) 0, .ptr (if k = nxt R i then x else lsA R k) 0])) :
    Ring H' (R.take i ++ x :: R.drop i) (W.take i ++ w :: W.drop i) := by
  have hw : i ≤ W.length := by rw [h.len]; exact hi
  refine ⟨by rw [len_ins, len_ins, h.len], by rw [len_ins]; omega, nodup_ins h.nd hx i, fun j hj => ?_⟩
  rw [len_ins] at hj
  rw [getD_ins R x 0 i j hi, getD_ins W w .junk i j hw, ins_nxA h1 hi (by omega), ins_lsA h1 hi (by omega)]
  by_cases c1 : j < i
  · simp only [if_pos c1]
    exact ho j (by omega)
  · simp only [if_neg c1]
    by_cases c2 : j = i
    · simp only [if_pos c2]
      exact hn
    · simp only [if_neg c2]
      have := ho (j - 1) (by omega)
      rw [if_neg (by omega)] at this
      exact this
theorem del_nxA {R : List Nat} {i : Nat} (h1 : 1 ≤ i) (hi : i < R.length) {j : Nat} (hj : j < R.length - 1) : nxA (R.take i ++ R.drop (i + 1)) j = if j < i then (if j = i - 1 then nxA R i else nxA R j) else nxA R (j + 1) := by
 unfold nxA
 rw [len_del _ _ hi, getD_del R 0 i _ hi, getD_del R 0 i _ hi]
 repeat' split
 all_goals first | rfl | (exfalso; omega) | (congr 1 <;> omega)
theorem del_lsA {R : List Nat} {i : Nat} (h1 : 1 ≤ i) (hi : i < R.length) {j : Nat} (hj : j < R.length - 1) : lsA (R.take i ++ R.drop (i + 1)) j = if j < i then (if j = nxt R (i + 1) then lsA R i else lsA R j) else (if j + 1 = nxt R (i + 1) then lsA R i else lsA R (j + 1)) := by
 unfold lsA nxt
 rw [len_del _ _ hi, getD_del R 0 i _ hi, getD_del R 0 i _ hi]
 repeat' split
 all_goals first | rfl | (exfalso; omega) | (congr 1 <;> omega)
theorem Ring.delete {H H' : Hp} {R : List Nat} {W : List V} (h : Ring H R W) {i : Nat} (h1 : 1 ≤ i) (hi : i < R.length)
    (ho : ∀ k, k < R.length → k ≠ i → H'[R.getD k 0]? = some (.cells [W.getD k .junk, .ptr (if k = i - 1 then nxA R i else nxA R k) 0, .ptr (if k = nxt R (i + 1) then lsA R i else lsA R k) 0])) :
    Ring H' (R.take i ++ R.drop (i + 1)) (W.take i ++ W.drop (i + 1)) := by
  have hw : i < W.length := by rw [h.len]; exact hi
  refine ⟨by rw [len_del _ _ hi, len_del _ _ hw, h.len], by rw [len_del _ _ hi]; omega, nodup_del h.nd i, fun j hj => ?_⟩
  rw [len_del _ _ hi] at hj
  rw [getD_del R 0 i j hi, getD_del W .junk i j hw, del_nxA h1 hi hj, del_lsA h1 hi hj]
  by_cases c1 : j < i
  · simp only [if_pos c1]
    exact ho j (by omega) (by omega)
  · simp only [if_neg c1]
    have := ho (j + 1) (by omega) (by omega)
    rw [if_neg (show ¬ j + 1 = i - 1 by omega)] at this
    exact this
theorem Ring.fr {H H' : Hp} {R : List Nat} {W : List V} {S : Nat → Prop} (h : Ring H R W) (k : Fr H H' S) (hs : ∀ c, c ∈ R → ¬ S c) : Ring H' R W :=
 ⟨h.len, h.pos, h.nd, fun i hi => by rw [k.2 _ (get_lt (h.at_ i hi)) (hs _ (getD_memN hi))]; exact h.at_ i hi⟩
def CF (G : Hp) (R : List Nat) (W : List V) (a b : Nat → Nat) : Prop := ∀ k, k < R.length → G[R.getD k 0]? = some (.cells [W.getD k .junk, .ptr (a k) 0, .ptr (b k) 0])
def Upd (G G' : Hp) (c : Nat) : Prop := G'.length = G.length ∧ ∀ d, d ≠ c → G'[d]? = G[d]?
theorem upd_set (G : Hp) (c : Nat) (x : Blk) : Upd G (G.set c x) c := ⟨by simp, fun d hd => get_ne hd.symm⟩
theorem CF.sa1 {G : Hp} {R : List Nat} {W : List V} {a b : Nat → Nat} {KH : V → Hp → Prop} (h : CF G R W a b) (nd : R.Nodup) {j v : Nat} (hj : j < R.length) (k : ∀ G', G' = G.set (R.getD j 0) (.cells [W.getD j .junk, .ptr v 0, .ptr (b j) 0]) → CF G' R W (fun k => if k = j then v else a k) b → Upd G G' (R.getD j 0) → KH .junk G') : aSt 1 (.ptr (R.getD j 0) 1) (.ptr v 0) G KH := by
 rw [st_at (h j hj)]
 refine ⟨Nat.le_of_ble_eq_true rfl, ⟨rfl, fun c hc => by simp only [stV, V.cl, List.mem_singleton] at hc; subst hc; rfl⟩, k _ rfl (fun m hm => ?_) (upd_set _ _ _)⟩
 by_cases e : m = j
 ·subst e
  rw [List.getElem?_set_self (get_lt (h m hm))]
  show some (Blk.cells [W.getD m .junk, .ptr v 0, .ptr (b m) 0]) = some (Blk.cells [W.getD m .junk, .ptr (if m = m then v else a m) 0, .ptr (b m) 0])
  rw [if_pos rfl]
 ·rw [get_ne (fun e' => e (nodup_inj nd hj hm e').symm)]
  show _ = some (Blk.cells [W.getD m .junk, .ptr (if m = j then v else a m) 0, .ptr (b m) 0])
  rw [if_neg e]
  exact h m hm
theorem CF.sa2 {G : Hp} {R : List Nat} {W : List V} {a b : Nat → Nat} {KH : V → Hp → Prop} (h : CF G R W a b) (nd : R.Nodup) {j v : Nat} (hj : j < R.length) (k : ∀ G', G' = G.set (R.getD j 0) (.cells [W.getD j .junk, .ptr (a j) 0, .ptr v 0]) → CF G' R W a (fun k => if k = j then v else b k) → Upd G G' (R.getD j 0) → KH .junk G') : aSt 1 (.ptr (R.getD j 0) 2) (.ptr v 0) G KH := by
 rw [st_at (h j hj)]
 refine ⟨Nat.le_of_ble_eq_true rfl, ⟨rfl, fun c hc => by simp only [stV, V.cl, List.mem_singleton] at hc; subst hc; rfl⟩, k _ rfl (fun m hm => ?_) (upd_set _ _ _)⟩
 by_cases e : m = j
 ·subst e
  rw [List.getElem?_set_self (get_lt (h m hm))]
  show some (Blk.cells [W.getD m .junk, .ptr (a m) 0, .ptr v 0]) = some (Blk.cells [W.getD m .junk, .ptr (a m) 0, .ptr (if m = m then v else b m) 0])
  rw [if_pos rfl]
 ·rw [get_ne (fun e' => e (nodup_inj nd hj hm e').symm)]
  show _ = some (Blk.cells [W.getD m .junk, .ptr (a m) 0, .ptr (if m = j then v else b m) 0])
  rw [if_neg e]
  exact h m hm
theorem CF.set1 {G : Hp} {R : List Nat} {W : List V} {a b : Nat → Nat} (h : CF G R W a b) (nd : R.Nodup) {j v : Nat} (hj : j < R.length) : CF (G.set (R.getD j 0) (.cells [W.getD j .junk, .ptr v 0, .ptr (b j) 0])) R W (fun k => if k = j then v else a k) b := fun m hm => by
 by_cases e : m = j
 ·subst e
  rw [List.getElem?_set_self (get_lt (h m hm))]
  show _ = some (Blk.cells [W.getD m .junk, .ptr (if m = m then v else a m) 0, .ptr (b m) 0])
  rw [if_pos rfl]
 ·rw [get_ne (fun e' => e (nodup_inj nd hj hm e').symm)]
  show _ = some (Blk.cells [W.getD m .junk, .ptr (if m = j then v else a m) 0, .ptr (b m) 0])
  rw [if_neg e]
  exact h m hm
theorem CF.set2 {G : Hp} {R : List Nat} {W : List V} {a b : Nat → Nat} (h : CF G R W a b) (nd : R.Nodup) {j v : Nat} (hj : j < R.length) : CF (G.set (R.getD j 0) (.cells [W.getD j .junk, .ptr (a j) 0, .ptr v 0])) R W a (fun k => if k = j then v else b k) := fun m hm => by
 by_cases e : m = j
 ·subst e
  rw [List.getElem?_set_self (get_lt (h m hm))]
  show _ = some (Blk.cells [W.getD m .junk, .ptr (a m) 0, .ptr (if m = m then v else b m) 0])
  rw [if_pos rfl]
 ·rw [get_ne (fun e' => e (nodup_inj nd hj hm e').symm)]
  show _ = some (Blk.cells [W.getD m .junk, .ptr (a m) 0, .ptr (if m = j then v else b m) 0])
  rw [if_neg e]
  exact h m hm
theorem CF.ext {G : Hp} {R : List Nat} {W : List V} {a b : Nat → Nat} (h : CF G R W a b) (L : Hp) : CF (G ++ L) R W a b := fun k hk => get_app (h k hk)
theorem c81 (H : Hp) : RetE Try.prog 81 [] H fun v H' => v = .ptr (H.length + 1) 0 ∧ H' = H ++ [.cells [nilP, .ptr H.length 0, .ptr H.length 0], .cells [.ptr H.length 0, I 0]] := by
 refine mkE81  ?_
 simp only [vc81, real]
 repeat (first | (with_reducible first | refine Ju.go ?_ | (refine Hd.go ?_; intro K Q hK hQ; simp only [e_bd0, nod_agg, List.map_cons, nodL_imm, List.map_nil, e_bx, okE_agg, lv_cons, List.length_nil, Nat.zero_add, Nat.reduceAdd, all_c, ck_nilP, all_n, Bool.and_self, and_true, cl_agg, true_and, nod_ptr, e_ncP, e_fa, e_sc0, Nat.reduceLeDiff, stV_ptr, okE_ptr, cl_ptr, spl_s, spl_0, spl_n, List.getD_cons_zero, e_bd1, own0_ptr, nodL_ptr, ck_ptr, ck_I, hp_len, hp_len_cons, hp_assoc, hp_cons, hp_nil]; subst hK hQ) | refine Jr.go ?_) | refine sd ?_)
 exact endW ⟨rfl, rfl⟩
theorem nxt_lt {R : List Nat} (h : 0 < R.length) (i : Nat) : nxt R i < R.length := by unfold nxt; split <;> omega
theorem lsA_nxt {R : List Nat} (hp : 0 < R.length) {i : Nat} (h1 : 1 ≤ i) (hi : i ≤ R.length) : lsA R (nxt R i) = R.getD (i - 1) 0 := by
 unfold lsA nxt
 repeat' split
 all_goals first | rfl | (exfalso; omega) | (congr 1 <;> omega)
theorem nxA_eq {R : List Nat} {i : Nat} : nxA R i = R.getD (nxt R (i + 1)) 0 := by
 unfold nxA nxt
 repeat' split
 all_goals rfl
theorem lsA_eq {R : List Nat} {i : Nat} (h1 : 1 ≤ i) : lsA R i = R.getD (i - 1) 0 := if_neg (by omega)
def insH (H : Hp) (qb rb n : Nat) (R : List Nat) (W : List V) (w : V) (i : Nat) : Hp :=
 (((H ++ [Blk.cells [w, .ptr (R.getD (nxt R i) 0) 0, .ptr (R.getD (i - 1) 0) 0]]).set (R.getD (i - 1) 0) (.cells [W.getD (i - 1) .junk, .ptr H.length 0, .ptr (lsA R (i - 1)) 0])).set (R.getD (nxt R i) 0) (.cells [W.getD (nxt R i) .junk, .ptr (if nxt R i = i - 1 then H.length else nxA R (nxt R i)) 0, .ptr H.length 0])).set qb (.cells [.ptr rb 0, I (n + 1 : Nat)])
theorem ring_new {H : Hp} {R : List Nat} {W : List V} (hr : Ring H R W) {x : Nat} (hx : H.length ≤ x) : x ∉ R := fun hm => by
 obtain ⟨k, hk, e⟩ := List.mem_iff_getElem.1 hm
 have := get_lt (hr.at_ k hk)
 rw [List.getD_eq_getElem?_getD, List.getElem?_eq_getElem hk, Option.getD_some, e] at this
 omega
theorem c95x (qb rb n i : Nat) (R : List Nat) (W : List V) (w : V) (H : Hp) (hl : H[qb]? = some (.cells [.ptr rb 0, I n])) (hr : Ring H R W) (hq : qb ∉ R) (h1 : 1 ≤ i) (hi : i ≤ R.length) (hn : n ≤ 1000000) (hw : ∃ b, w = .ptr b 0) :
    RetE Try.prog 95 [.ptr qb 0, .ptr (R.getD (nxt R i) 0) 0, w] H (fun v H' => v = .tup [] ∧ H' = insH H qb rb n R W w i) ∧
    (insH H qb rb n R W w i).length = H.length + 1 ∧ (insH H qb rb n R W w i)[qb]? = some (.cells [.ptr rb 0, I (n + 1 : Nat)]) ∧ Ring (insH H qb rb n R W w i) (R.take i ++ H.length :: R.drop i) (W.take i ++ w :: W.drop i) ∧ Fr H (insH H qb rb n R W w i) fun c => c = qb ∨ c ∈ R := by
  obtain ⟨pb, rfl⟩ := hw
  have hlt := nxt_lt hr.pos i
  have hA := hr.at_ _ hlt
  rw [lsA_nxt hr.pos h1 hi] at hA
  have hxR : H.length ∉ R := ring_new hr (Nat.le_refl _)
  unfold insH
  have cf0 : CF (H ++ [Blk.cells [.ptr pb 0, .ptr (R.getD (nxt R i) 0) 0, .ptr (R.getD (i - 1) 0) 0]]) R W (nxA R) (lsA R) := CF.ext hr.at_ _
  have hx0 : (H ++ [Blk.cells [.ptr pb 0, .ptr (R.getD (nxt R i) 0) 0, .ptr (R.getD (i - 1) 0) 0]])[H.length]? = some (.cells [.ptr pb 0, .ptr (R.getD (nxt R i) 0) 0, .ptr (R.getD (i - 1) 0) 0]) := tail0 _ _
  have hq0 := get_app (L := [Blk.cells [.ptr pb 0, .ptr (R.getD (nxt R i) 0) 0, .ptr (R.getD (i - 1) 0) 0]]) hl
  have hA0 := cf0 _ hlt
  rw [lsA_nxt hr.pos h1 hi] at hA0
  have hf0 : ∀ c, c < H.length → (H ++ [Blk.cells [.ptr pb 0, .ptr (R.getD (nxt R i) 0) 0, .ptr (R.getD (i - 1) 0) 0]])[c]? = H[c]? := fun c hc => List.getElem?_append_left hc
  have hl0 : (H ++ [Blk.cells [.ptr pb 0, .ptr (R.getD (nxt R i) 0) 0, .ptr (R.getD (i - 1) 0) 0]]).length = H.length + 1 := by simp
  have hm1 : R.getD (i - 1) 0 ∈ R := getD_memN (by omega)
  have hm2 := getD_memN hlt
  have hne : ∀ k, k < R.length → qb ≠ R.getD k 0 := fun k hk e => hq (e ▸ getD_memN hk)
  constructor
  · refine mkE95 _ _ _ ?_
    simp only [vc95, real]
    repeat (first | (with_reducible first | refine Ju.go ?_ | (refine Hd.go ?_; intro K Q hK hQ; simp only [nod_ptr, e_ncP, e_fa, Nat.zero_add, ld_at hA, Nat.reduceAdd, lv_cons, List.length_nil, Nat.reduceLeDiff, List.getD_cons_succ, List.getD_cons_zero, true_and, e_bd1, okE_ptr, cl_ptr, spl_0, spl_n, spl_s, e_bd0, own0_ptr, nod_agg, List.map_cons, nodL_ptr, List.map_nil, e_bx, okE_agg, all_c, ck_ptr, all_n, Bool.and_self, and_true, cl_agg]; subst hK hQ) | refine Jr.go ?_) | refine sd ?_)
    generalize H ++ [Blk.cells [.ptr pb 0, .ptr (R.getD (nxt R i) 0) 0, .ptr (R.getD (i - 1) 0) 0]] = G0 at *
    repeat (first | (with_reducible first | refine Ju.go ?_ | (refine Hd.go ?_; intro K Q hK hQ; simp only [ld_at hA0, Nat.reduceAdd, lv_cons, List.length_nil, Nat.zero_add, Nat.reduceLeDiff, List.getD_cons_succ, List.getD_cons_zero, nod_ptr, true_and, e_ncP, e_fa]; subst hK hQ) | refine Jr.go ?_) | refine sd ?_)
    refine cf0.sa1 hr.nd (by omega) fun G1 e1 cf1 u1 => ?_
    repeat (first | (with_reducible first | refine Ju.go ?_ | (refine Hd.go ?_; intro K Q hK hQ; simp only [nod_ptr, e_ncP, e_fa, Nat.zero_add]; subst hK hQ) | refine Jr.go ?_) | refine sd ?_)
    refine cf1.sa2 hr.nd hlt fun G2 e2 cf2 u2 => ?_
    have hq2 : G2[qb]? = some (.cells [.ptr rb 0, I n]) := by rw [u2.2 qb (fun e => hq (e ▸ hm2)), u1.2 qb (fun e => hq (e ▸ hm1))]; exact hq0
    repeat (first | (with_reducible first | refine Ju.go ?_ | (refine Hd.go ?_; intro K Q hK hQ; simp only [List.getD_cons_zero, nod_ptr, e_ncP, e_fa, Nat.zero_add, ld_at hq2, Nat.reduceAdd, lv_cons, List.length_nil, Nat.reduceLeDiff, List.getD_cons_succ, nod_imm, true_and, Try.underlying3, e_add, st_at hq2, stV_imm, okE_I, cl_imm, spl_s, spl_0, spl_n]; subst hK hQ) | refine Jr.go ?_) | refine sd ?_)
    refine endW ⟨rfl, ?_⟩
    rw [e2, e1]
    rfl
  · generalize H ++ [Blk.cells [.ptr pb 0, .ptr (R.getD (nxt R i) 0) 0, .ptr (R.getD (i - 1) 0) 0]] = G0 at *
    have cf1 := cf0.set1 hr.nd (j := i - 1) (v := H.length) (by omega)
    have u1 := upd_set G0 (R.getD (i - 1) 0) (.cells [W.getD (i - 1) .junk, .ptr H.length 0, .ptr (lsA R (i - 1)) 0])
    generalize G0.set (R.getD (i - 1) 0) (.cells [W.getD (i - 1) .junk, .ptr H.length 0, .ptr (lsA R (i - 1)) 0]) = G1 at *
    have cf2 := cf1.set2 hr.nd (j := nxt R i) (v := H.length) hlt
    have u2 := upd_set G1 (R.getD (nxt R i) 0) (.cells [W.getD (nxt R i) .junk, .ptr (if nxt R i = i - 1 then H.length else nxA R (nxt R i)) 0, .ptr H.length 0])
    generalize G1.set (R.getD (nxt R i) 0) (.cells [W.getD (nxt R i) .junk, .ptr (if nxt R i = i - 1 then H.length else nxA R (nxt R i)) 0, .ptr H.length 0]) = G2 at *
    have hq2 : G2[qb]? = some (.cells [.ptr rb 0, I n]) := by rw [u2.2 qb (fun e => hq (e ▸ hm2)), u1.2 qb (fun e => hq (e ▸ hm1))]; exact hq0
    have hqb := get_lt hq2
    refine ⟨by rw [List.length_set, u2.1, u1.1, hl0], List.getElem?_set_self hqb, hr.insert hxR h1 hi ?_ (fun k hk => ?_), by rw [List.length_set, u2.1, u1.1, hl0]; omega, fun c hc hn => ?_⟩
    · have hxq : qb ≠ H.length := fun e => by have := get_lt hl; omega
      rw [get_ne hxq, u2.2 _ (fun e => hxR (by rw [e]; exact hm2)), u1.2 _ (fun e => hxR (by rw [e]; exact hm1))]
      exact hx0
    · rw [get_ne (hne k hk)]
      exact cf2 k hk
    · rw [get_ne (fun e => hn (.inl e.symm)), u2.2 _ (fun e => hn (.inr (by rw [e]; exact hm2))), u1.2 _ (fun e => hn (.inr (by rw [e]; exact hm1)))]
      exact hf0 c hc
theorem c83 (qb rb n i : Nat) (R : List Nat) (W : List V) (H : Hp) (hl : H[qb]? = some (.cells [.ptr rb 0, I n])) (hr : Ring H R W) (hq : qb ∉ R) (h1 : 1 ≤ i) (hi : i < R.length) (hn : n ≤ 1000000) :
    RetE Try.prog 83 [.ptr qb 0, .ptr (R.getD i 0) 0] H fun _ H' => H'.length = H.length ∧ H'[qb]? = some (.cells [.ptr rb 0, I ((n : Int) - 1)]) ∧ Ring H' (R.take i ++ R.drop (i + 1)) (W.take i ++ W.drop (i + 1)) ∧ Fr H H' (fun c => c = qb ∨ c ∈ R) ∧ H'[R.getD i 0]? = H[R.getD i 0]? := by
  have hA := hr.at_ i hi
  rw [nxA_eq, lsA_eq h1] at hA
  have hlt := nxt_lt hr.pos (i + 1)
  have hm1 : R.getD (i - 1) 0 ∈ R := getD_memN (by omega)
  have hm2 := getD_memN hlt
  have cf0 : CF H R W (nxA R) (lsA R) := hr.at_
  refine mkE83 _ _ ?_
  simp only [vc83, real]
  repeat (first | (with_reducible first | refine Ju.go ?_ | (refine Hd.go ?_; intro K Q hK hQ; simp only [nod_ptr, e_ncP, e_fa, Nat.zero_add, ld_at hA, Nat.reduceAdd, lv_cons, List.length_nil, Nat.reduceLeDiff, List.getD_cons_succ, List.getD_cons_zero, true_and]; subst hK hQ) | refine Jr.go ?_) | refine sd ?_)
  refine cf0.sa1 hr.nd (by omega) fun G1 _ cf1 u1 => ?_
  repeat (first | (with_reducible first | refine Ju.go ?_ | (refine Hd.go ?_; intro K Q hK hQ; simp only [nod_ptr, e_ncP, e_fa, Nat.zero_add]; subst hK hQ) | refine Jr.go ?_) | refine sd ?_)
  refine cf1.sa2 hr.nd hlt fun G2 _ cf2 u2 => ?_
  have hq2 : G2[qb]? = some (.cells [.ptr rb 0, I n]) := by rw [u2.2 qb (fun e => hq (e ▸ hm2)), u1.2 qb (fun e => hq (e ▸ hm1))]; exact hl
  have hqb := get_lt hq2
  repeat (first | (with_reducible first | refine Ju.go ?_ | (refine Hd.go ?_; intro K Q hK hQ; simp only [List.getD_cons_zero, nod_ptr, e_ncP, e_fa, Nat.zero_add, ld_at hq2, Nat.reduceAdd, lv_cons, List.length_nil, Nat.reduceLeDiff, List.getD_cons_succ, nod_imm, true_and, Try.underlying3, e_sub, st_at hq2, stV_imm, okE_I, cl_imm, spl_s, spl_0, spl_n]; subst hK hQ) | refine Jr.go ?_) | refine sd ?_)
  refine endW ?_
  have hne : ∀ k, k < R.length → qb ≠ R.getD k 0 := fun k hk e => hq (e ▸ getD_memN hk)
  refine ⟨by rw [List.length_set, u2.1, u1.1], List.getElem?_set_self hqb, hr.delete h1 hi (fun k hk hki => ?_), ⟨by rw [List.length_set, u2.1, u1.1]; omega, fun c hc hn => ?_⟩, ?_⟩
  · rw [get_ne (hne k hk), nxA_eq, lsA_eq h1]
    exact cf2 k hk
  · rw [get_ne (fun e => hn (.inl e.symm)), u2.2 _ (fun e => hn (.inr (by rw [e]; exact hm2))), u1.2 _ (fun e => hn (.inr (by rw [e]; exact hm1)))]
  · rw [get_ne (hne i hi), u2.2 _ (fun e => by
      have := nodup_inj hr.nd hi hlt e
      unfold nxt at this
      split at this <;> omega), u1.2 _ (fun e => by have := nodup_inj hr.nd hi (by omega) e; omega)]
theorem eqP_atE {H : Hp} {b c : Nat} {x y : List V} {K : V → Prop} (hb : H[b]? = some (.cells x)) (hc : H[c]? = some (.cells y)) : aEqP .eql (.ptr b 0) (.ptr c 0) H K = K (B (decide (b = c))) := by
 have hd : decide (b = c ∧ 0 = 0) = decide (b = c) := by simp
 show (liveB H b ∧ liveB H c ∧ K (B (decide (b = c ∧ 0 = 0)))) = _
 rw [hd]
 exact propext ⟨fun h => h.2.2, fun h => ⟨by unfold liveB; rw [hb]; trivial, by unfold liveB; rw [hc]; trivial, h⟩⟩
def cutI (p : Spc) (i : Nat) : List Int := (p.sm.take (perTo p i).toNat).drop (p.pe.getD i 0).toNat
def osN (p : Spc) (k : Pc) : Nat → List Int
 | 0 => p.sm.take (fst3 p).toNat
 | i + 1 => osN p k i ++ (List.replicate (tms k i) (cutI p i)).flatten
def atR (p : Spc) (k : Pc) (a : Int) : Nat → Int
 | 0 => a
 | i + 1 => if p.pe.getD i 0 ≤ a then ((osN p k i).length : Int) + (if tms k i = 0 then 0 else a - p.pe.getD i 0) else atR p k a i
def atN (p : Spc) (k : Pc) (a : Int) : Int := if (p.sm.length : Int) ≤ a then (osN p k p.pe.length).length else atR p k a p.pe.length
def bnd (p : Spc) (i : Nat) : Int := if i < p.pe.length then p.pe.getD i 0 else p.sm.length
theorem fst3_bnd (p : Spc) : fst3 p = bnd p 0 := rfl
theorem perTo_bnd (p : Spc) (i : Nat) : perTo p i = bnd p (i + 1) := rfl
theorem pe_mono {p : Spc} (h : okSp p = true) {i : Nat} : ∀ j, i < j → j < p.pe.length → p.pe.getD i 0 < p.pe.getD j 0
 | 0, hij, _ => absurd hij (Nat.not_lt_zero _)
 | j + 1, hij, hj => by
  have h1 := (okPe.rng (okSp.pe h (j + 1) hj)).2.2 (by omega)
  rw [Nat.add_sub_cancel] at h1
  by_cases e : i = j
  ·subst e; exact h1
  ·have := pe_mono (i := i) h j (by omega) (by omega); omega
theorem bnd_mono {p : Spc} (h : okSp p = true) {i j : Nat} (hij : i ≤ j) : bnd p i ≤ bnd p j := by
 unfold bnd
 by_cases hj : j < p.pe.length
 ·rw [if_pos hj, if_pos (by omega)]
  by_cases e : i = j
  ·subst e; exact Int.le_refl _
  ·have := pe_mono (i := i) h j (by omega) hj; omega
 ·rw [if_neg hj]
  by_cases hi : i < p.pe.length
  ·rw [if_pos hi]
   have := okPe.rng (okSp.pe h i hi); omega
  ·rw [if_neg hi]; exact Int.le_refl _
theorem bnd_le {p : Spc} (h : okSp p = true) (i : Nat) : 0 ≤ bnd p i ∧ bnd p i ≤ p.sm.length := by
 unfold bnd
 by_cases hi : i < p.pe.length
 ·rw [if_pos hi]
  have := okPe.rng (okSp.pe h i hi); omega
 ·rw [if_neg hi]; omega
theorem atR_skip {p : Spc} (k : Pc) {a : Int} {i : Nat} : ∀ n, i ≤ n → (∀ j, i ≤ j → j < n → a < p.pe.getD j 0) → atR p k a n = atR p k a i
 | 0, hi, _ => by
  obtain rfl : i = 0 := by omega
  rfl
 | n + 1, hi, h => by
  by_cases e : i = n + 1
  ·subst e; rfl
  ·have h1 := h n (by omega) (Nat.lt_succ_self n)
   show (if p.pe.getD n 0 ≤ a then _ else atR p k a n) = _
   rw [if_neg (by omega)]
   exact atR_skip k n (by omega) fun j h2 h3 => h j h2 (by omega)
theorem atN_lead {p : Spc} (h : okSp p = true) (k : Pc) {a : Int} (ha : a < bnd p 0) : atN p k a = a := by
 have h0 := bnd_le h 0
 unfold atN
 rw [if_neg (by omega)]
 exact atR_skip k (i := 0) _ (Nat.zero_le _) fun j _ hj => by
  have := bnd_mono h (Nat.zero_le j)
  unfold bnd at this ha
  rw [if_pos hj] at this
  rw [if_pos (by omega)] at this ha
  omega
theorem atN_per {p : Spc} (h : okSp p = true) (k : Pc) {a : Int} {i : Nat} (hi : i < p.pe.length) (h1 : bnd p i ≤ a) (h2 : a < bnd p (i + 1)) : atN p k a = ((osN p k i).length : Int) + (if tms k i = 0 then 0 else a - p.pe.getD i 0) := by
 have h0 := bnd_le h (i + 1)
 unfold atN
 rw [if_neg (by omega), atR_skip k (i := i + 1) _ (by omega) fun j h3 hj => by
  have := bnd_mono h h3
  have e : bnd p j = p.pe.getD j 0 := if_pos hj
  omega]
 have e : bnd p i = p.pe.getD i 0 := if_pos hi
 show (if p.pe.getD i 0 ≤ a then _ else _) = _
 rw [if_pos (by omega)]
theorem atN_end {p : Spc} (k : Pc) {a : Int} (h : (p.sm.length : Int) ≤ a) : atN p k a = (osN p k p.pe.length).length := if_pos h
theorem tw_add {α : Type} (p1 p2 : α → Bool) (h : ∀ a, p1 a = true → p2 a = true) (l : List α) : l.takeWhile p2 = l.takeWhile p1 ++ (l.dropWhile p1).takeWhile p2 := by
 induction l with
 | nil => rfl
 | cons a l ih =>
  by_cases h1 : p1 a = true
  ·simp only [List.takeWhile_cons, List.dropWhile_cons, h1, h a h1, if_true, List.cons_append, ← ih]
  ·rw [List.takeWhile_cons (p := p1), List.dropWhile_cons (p := p1), if_neg h1, if_neg h1]; rfl
theorem dw_add {α : Type} (p1 p2 : α → Bool) (h : ∀ a, p1 a = true → p2 a = true) (l : List α) : (l.dropWhile p1).dropWhile p2 = l.dropWhile p2 := by
 induction l with
 | nil => rfl
 | cons a l ih =>
  by_cases h1 : p1 a = true
  ·simp only [List.dropWhile_cons, h1, h a h1, if_true, ih]
  ·rw [List.dropWhile_cons (p := p1), if_neg h1]
def Srt : List Sgn → Prop
 | [] => True
 | g :: l => (∀ x, x ∈ l → g.a ≤ x.a) ∧ Srt l
theorem okSp.sgo {p : Spc} (h : okSp p = true) : ∀ i, i < p.sg.length → okSg p i = true := fun i hi => by
 unfold okSp at h
 simp only [Bool.and_eq_true, List.all_eq_true] at h
 exact h.2 i (List.mem_range.2 hi)
theorem sg_mono {p : Spc} (h : okSp p = true) {i : Nat} : ∀ j, i ≤ j → j < p.sg.length → (p.sg.getD i default).a ≤ (p.sg.getD j default).a
 | 0, hij, _ => by
  obtain rfl : i = 0 := by omega
  exact Int.le_refl _
 | j + 1, hij, hj => by
  by_cases e : i = j + 1
  ·subst e; exact Int.le_refl _
  ·have h1 := okSp.sgo h (j + 1) hj
   unfold okSg at h1
   simp only [Bool.and_eq_true, Bool.not_eq_true', Bool.and_eq_false_iff, decide_eq_false_iff_not, Nat.add_sub_cancel] at h1
   have := sg_mono (i := i) h j (by omega) (by omega)
   omega
theorem srt_of : ∀ (l : List Sgn), (∀ i j, i ≤ j → j < l.length → (l.getD i default).a ≤ (l.getD j default).a) → Srt l
  | [], _ => trivial
  | g :: l, h => ⟨fun x hx => by
      obtain ⟨j, hj, rfl⟩ := List.mem_iff_getElem.1 hx
      have := h 0 (j + 1) (by omega) (by rw [List.length_cons]; omega)
      simpa [List.getD_eq_getElem?_getD, hj] using this, srt_of l fun i j hij hj => by
      have := h (i + 1) (j + 1) (by omega) (by rw [List.length_cons]; omega)
      simpa [List.getD_eq_getElem?_getD] using this⟩
theorem okSp.srt {p : Spc} (h : okSp p = true) : Srt p.sg := srt_of _ fun i j h1 h2 => sg_mono h j h1 h2
theorem srt_dw {b : Int} : ∀ {l : List Sgn}, Srt l → ∀ g, g ∈ l.dropWhile (fun g => decide (g.a < b)) → b ≤ g.a
 | [], _, g, hg => by cases hg
 | x :: l, h, g, hg => by
  rw [List.dropWhile_cons] at hg
  by_cases hx : x.a < b
  ·rw [if_pos (decide_eq_true hx)] at hg
   exact srt_dw h.2 g hg
  ·rw [if_neg (by rw [decide_eq_true_eq]; exact hx)] at hg
   rcases List.mem_cons.1 hg with rfl | hg
   ·omega
   ·have := h.1 g hg; omega
theorem tw_lt {b : Int} {l : List Sgn} {g : Sgn} (h : g ∈ l.takeWhile (fun g => decide (g.a < b))) : g.a < b := by
 induction l with
 | nil => cases h
 | cons x l ih =>
  rw [List.takeWhile_cons] at h
  by_cases hx : x.a < b
  ·rw [if_pos (decide_eq_true hx)] at h
   rcases List.mem_cons.1 h with rfl | h
   ·exact hx
   ·exact ih h
  ·rw [if_neg (by rw [decide_eq_true_eq]; exact hx)] at h
   cases h
theorem dw_nil {b : Int} {l : List Sgn} (h : ∀ g, g ∈ l → b ≤ g.a) : l.takeWhile (fun g => decide (g.a < b)) = [] ∧ l.dropWhile (fun g => decide (g.a < b)) = l := by
 cases l with
 | nil => exact ⟨rfl, rfl⟩
 | cons x l =>
  have := h x (by simp)
  have hx : ¬ x.a < b := by omega
  rw [List.takeWhile_cons, List.dropWhile_cons, if_neg (by rw [decide_eq_true_eq]; exact hx), if_neg (by rw [decide_eq_true_eq]; exact hx)]
  exact ⟨rfl, rfl⟩
theorem pst_rep (p : Spc) {b : Int} (f : Int) : ∀ (m : Nat) (s : PS), (∀ g, g ∈ s.rs → b ≤ g.a) → (List.replicate m (⟨f, b, true⟩ : St3)).foldl (pst p) s = ⟨s.os ++ (List.replicate m (cutS p ⟨f, b, true⟩)).flatten, s.og, s.rs⟩
 | 0, s, _ => by simp
 | m + 1, s, h => by
  obtain ⟨e1, e2⟩ := dw_nil h
  have e : pst p s ⟨f, b, true⟩ = ⟨s.os ++ cutS p ⟨f, b, true⟩, s.og, s.rs⟩ := by
   unfold pst
   simp only [e1, e2, if_true, List.map_nil, List.append_nil]
  rw [List.replicate_succ, List.foldl_cons, e, pst_rep p f m ⟨s.os ++ cutS p ⟨f, b, true⟩, s.og, s.rs⟩ h, List.replicate_succ, List.flatten_cons, ← List.append_assoc]
def pre (p : Spc) (k : Pc) (i : Nat) : List St3 := ⟨0, fst3 p, true⟩ :: (List.range i).flatMap (seg p k)
def atS (p : Spc) (k : Pc) (g : Sgn) : Sgn := ⟨atN p k g.a, g.n⟩
def lt (b : Int) : Sgn → Bool := fun g => decide (g.a < b)
theorem lt_mono {b c : Int} (h : b ≤ c) : ∀ g, lt b g = true → lt c g = true := fun g hg => by
 unfold lt at *
 rw [decide_eq_true_eq] at *
 omega
theorem pcS_pre {p : Spc} (k : Pc) (h : okSp p = true) : ∀ i, i ≤ p.pe.length → pcS p (pre p k i) = ⟨osN p k i, (p.sg.takeWhile (lt (bnd p i))).map (atS p k), p.sg.dropWhile (lt (bnd p i))⟩
 | 0, _ => by
  show pst p (pc0 p) ⟨0, fst3 p, true⟩ = _
  unfold pst pc0
  rw [fst3_bnd]
  simp only [if_true, List.nil_append]
  show (⟨_, _, _⟩ : PS) = ⟨_, _, _⟩
  have e1 : cutS p ⟨0, bnd p 0, true⟩ = osN p k 0 := rfl
  rw [e1]
  congr 1
  refine List.map_congr_left fun g hg => ?_
  have := tw_lt hg
  unfold sgAt atS
  rw [atN_lead h k this]
  simp
 | i + 1, hi => by
  have ih := pcS_pre k h i (by omega)
  have hb := bnd_mono h (Nat.le_succ i)
  have e0 : pre p k (i + 1) = pre p k i ++ seg p k i := by
   unfold pre
   rw [List.range_succ, List.flatMap_append, List.flatMap_singleton]; rfl
  have hge : ∀ g, g ∈ p.sg.dropWhile (lt (bnd p i)) → bnd p i ≤ g.a := srt_dw (okSp.srt h)
  have hge2 : ∀ g, g ∈ p.sg.dropWhile (lt (bnd p (i + 1))) → bnd p (i + 1) ≤ g.a := srt_dw (okSp.srt h)
  have eb : bnd p i = p.pe.getD i 0 := if_pos (by omega)
  have et := tw_add (lt (bnd p i)) (lt (bnd p (i + 1))) (lt_mono hb) p.sg
  have ed := dw_add (lt (bnd p i)) (lt (bnd p (i + 1))) (lt_mono hb) p.sg
  have eF : pcS p (pre p k (i + 1)) = (seg p k i).foldl (pst p) (pcS p (pre p k i)) := by
   unfold pcS; rw [e0, List.foldl_append]
  rw [eF, ih]
  have step : ∀ sd, pst p ⟨osN p k i, (p.sg.takeWhile (lt (bnd p i))).map (atS p k), p.sg.dropWhile (lt (bnd p i))⟩ ⟨p.pe.getD i 0, perTo p i, sd⟩ = ⟨if sd then osN p k i ++ cutI p i else osN p k i, (p.sg.takeWhile (lt (bnd p i))).map (atS p k) ++ ((p.sg.dropWhile (lt (bnd p i))).takeWhile (lt (bnd p (i + 1)))).map (fun g => ⟨((osN p k i).length : Int) + (if sd then g.a - p.pe.getD i 0 else 0), g.n⟩), p.sg.dropWhile (lt (bnd p (i + 1)))⟩ := fun sd => by
   unfold pst
   rw [perTo_bnd]
   simp only
   rw [show (p.sg.dropWhile (lt (bnd p i))).dropWhile (fun g => decide (g.a < bnd p (i + 1))) = _ from ed]
   congr 2
   refine List.map_congr_left fun g hg => ?_
   unfold sgAt
   cases sd <;> simp
  have key : ∀ sd : Bool, (sd = true ↔ tms k i ≠ 0) → ((p.sg.dropWhile (lt (bnd p i))).takeWhile (lt (bnd p (i + 1)))).map (fun g => (⟨((osN p k i).length : Int) + (if sd then g.a - p.pe.getD i 0 else 0), g.n⟩ : Sgn)) = ((p.sg.dropWhile (lt (bnd p i))).takeWhile (lt (bnd p (i + 1)))).map (atS p k) := fun sd hsd => by
   refine List.map_congr_left fun g hg => ?_
   have h1 := hge g ((List.takeWhile_sublist _).mem hg)
   have h2 := tw_lt hg
   unfold atS
   rw [atN_per h k (by omega) h1 h2]
   cases sd
   ·have : tms k i = 0 := by
     by_cases e : tms k i = 0
     ·exact e
     ·have := hsd.2 e; cases this
    rw [if_pos this]; rfl
   ·rw [if_neg (hsd.1 rfl)]; rfl
  unfold seg
  by_cases ht : tms k i = 0
  ·rw [if_pos ht]
   show pst p _ _ = _
   rw [step false, key false ⟨fun e => (by cases e), fun e => absurd ht e⟩, ← List.map_append, ← et]
   show _ = (⟨osN p k i ++ (List.replicate (tms k i) (cutI p i)).flatten, _, _⟩ : PS)
   rw [ht]
   simp
  ·rw [if_neg ht]
   obtain ⟨m, hm⟩ : ∃ m, tms k i = m + 1 := ⟨tms k i - 1, by omega⟩
   rw [hm, List.replicate_succ, List.foldl_cons, step true, key true ⟨fun _ => ht, fun _ => rfl⟩, ← List.map_append, ← et]
   rw [pst_rep p (p.pe.getD i 0) m _ (by rw [perTo_bnd]; exact hge2)]
   show _ = (⟨osN p k i ++ (List.replicate (tms k i) (cutI p i)).flatten, _, _⟩ : PS)
   rw [hm, List.replicate_succ, List.flatten_cons, ← List.append_assoc]
   rfl
theorem pacS_eq {p : Spc} (k : Pc) (h : okSp p = true) : pacS p k = osN p k p.pe.length := by
 unfold pacS
 have : strs p k = pre p k p.pe.length := rfl
 rw [this, pcS_pre k h _ (Nat.le_refl _)]
theorem pacG_eq {p : Spc} (k : Pc) (h : okSp p = true) : pacG p k = p.sg.map (atS p k) := by
 unfold pacG
 have : strs p k = pre p k p.pe.length := rfl
 rw [this, pcS_pre k h _ (Nat.le_refl _)]
 simp only
 have e : bnd p p.pe.length = p.sm.length := if_neg (Nat.lt_irrefl _)
 have : (p.sg.dropWhile (lt (bnd p p.pe.length))).map (fun g => (⟨((osN p k p.pe.length).length : Int), g.n⟩ : Sgn)) = (p.sg.dropWhile (lt (bnd p p.pe.length))).map (atS p k) := by
  refine List.map_congr_left fun g hg => ?_
  have h1 := srt_dw (okSp.srt h) g hg
  unfold atS
  rw [atN_end k (by omega)]
 rw [this, ← List.map_append, List.takeWhile_append_dropWhile]
end Go.Proofs.Ytlnjhnemmemloaa
