import Derived.Test.YtehjfjdknllmhaaAb23
import Derived.Test.YtehjfjdknllmhaaProg
import Derived.Test.YtehjfjdknllmhaaJV1
set_option linter.unusedVariables false
set_option maxRecDepth 20000
set_option maxHeartbeats 4000000
namespace Go.Proofs.Ytehjfjdknllmhaa
open Go Go.Ab Go.Proofs
/- declaim/declaimref07.Marked -/
def an30 : An := { imm := [1], jn := [(8, [1, 4, 45])], lp := [(5, [1, 4])], loud := [26], ord := [] }
def vc30 (C : Cb) (a0 : V) (H : Hp) (R : List V → Hp → Prop) : Prop :=
 C.aBx true 2 a0.nod H fun (v1 : V) (H2 : Hp) =>
 C.aFA 0 1 false v1.nod fun (v3 : V) =>
 C.aLd 1 false false v3.nod H2 fun (v4 : V) (H5 : Hp) =>
 C.call 42 [v4.nod] H5 fun (v6 : V) (H7 : Hp) =>
 C.aBin (Try.prog.underlying 25) .neq v6.nod.nod (I 0) fun (v8 : V) =>
 aCond v8.nod (
 R [v6.nod] H7) (
 LoopA (fun (l9 : List V) (H10 : Hp) (K11 : List V → Hp → Prop) =>
 C.aFA 1 1 false (l9.getD 0 .junk).nod fun (v12 : V) =>
 C.aLd 1 false false v12.nod H10 fun (v13 : V) (H14 : Hp) =>
 C.aLen v13.nod fun (v15 : V) =>
 C.aBin (Try.prog.underlying 3) .lss (l9.getD 1 .junk).nod.nod v15.nod fun (v16 : V) =>
 aCond v16.nod (
 Jn (fun (l17 : List V) (H18 : Hp) =>
 aCond (l17.getD 2 .junk).nod (
 R [(I 2)] H18) (
 C.aBin (Try.prog.underlying 3) .add (l17.getD 1 .junk).nod.nod (I 1) fun (v20 : V) =>
 K11 [(l17.getD 0 .junk), v20] H18))
 (fun (R19 : List V → Hp → Prop) =>
 C.aFA 1 1 false (l9.getD 0 .junk).nod fun (v21 : V) =>
 C.aLd 1 false false v21.nod H14 fun (v22 : V) (H23 : Hp) =>
 C.aIx 1 v22.nod (l9.getD 1 .junk).nod.nod fun (v24 : V) =>
 C.aLd 1 false false v24.nod H23 fun (v25 : V) (H26 : Hp) =>
 C.aFA 0 1 false (l9.getD 0 .junk).nod fun (v27 : V) =>
 C.aLd 1 false false v27.nod H26 fun (v28 : V) (H29 : Hp) =>
 C.aLen v28.nod fun (v30 : V) =>
 C.call 60 [v25.nod, (I 0), v30.nod] H29 fun (v31 : V) (H32 : Hp) =>
 C.aUn .not v31.nod fun (v33 : V) =>
 Jv (fun (v34 : V) (H35 : Hp) =>
 R19 [(l9.getD 0 .junk), (l9.getD 1 .junk), v34] H35)
 (fun (R36 : V → Hp → Prop) =>
 aG v33.nod false (
 C.aBin (Try.prog.underlying 3) .gtr (l9.getD 1 .junk).nod.nod (I 0) fun (v37 : V) =>
 aG v37.nod true (
 C.aFA 1 1 false (l9.getD 0 .junk).nod fun (v38 : V) =>
 C.aLd 1 false false v38.nod H32 fun (v39 : V) (H40 : Hp) =>
 C.aIx 1 v39.nod (l9.getD 1 .junk).nod.nod fun (v41 : V) =>
 C.aLd 1 false false v41.nod H40 fun (v42 : V) (H43 : Hp) =>
 C.aFA 1 1 false (l9.getD 0 .junk).nod fun (v44 : V) =>
 C.aLd 1 false false v44.nod H43 fun (v45 : V) (H46 : Hp) =>
 C.aBin (Try.prog.underlying 3) .sub (l9.getD 1 .junk).nod.nod (I 1) fun (v47 : V) =>
 C.aIx 1 v45.nod v47.nod fun (v48 : V) =>
 C.aLd 1 false false v48.nod H46 fun (v49 : V) (H50 : Hp) =>
 C.aBin (Try.prog.underlying 3) .leq v42.nod v49.nod fun (v51 : V) =>
 R36 v51.nod.nod H50) (
 R36 (B false) H32)) (
 UD = UD ∧
 UD = UD ∧
 UD = UD ∧
 UD = UD ∧
 UD = UD ∧
 UD = UD ∧
 UD = UD ∧
 UD = UD ∧
 UD = UD ∧
 UD = UD ∧
 UD = UD ∧
 UD = UD ∧
 R36 (B true) H32)))) (
 C.aFA 1 1 false (l9.getD 0 .junk).nod fun (v52 : V) =>
 C.aLd 1 false false v52.nod H14 fun (v53 : V) (H54 : Hp) =>
 C.aLen v53.nod fun (v55 : V) =>
 C.aBin (Try.prog.underlying 3) .lss v55.nod (I 2) fun (v56 : V) =>
 aCond v56.nod (
 R [(I 2)] H54) (
 R [(I 0)] H54)))
 [v1, (I 0)] H7)
theorem wf30 : (Nat.ble 1 Try.f30.ntmps && wfC an30 Try.f30.ntmps (Try.f30.body.getD .skip)) = true := by kernel_rfl
theorem tie30 (C : Cb) (a0 : V) (H : Hp) (R : List V → Hp → Prop) : wpG Try.prog C an30 (Try.f30.body.getD .skip) (argF [a0]) H (retG Try.prog C Try.f30 R) (fun _ _ _ => False) (retG Try.prog C Try.f30 R) = vc30 C a0 H R := by kernel_rfl
theorem mk30 (a0 : V) {H : Hp} {v : V} {H1 : Hp} (hd : v.Nd) (hn : H.length ≤ H1.length) (hb : H1 = H ∨ ∀ (b : Nat) (blk : Blk), H1[b]? = some blk → H[b]? = some blk ∨ BelB H1.length blk) (h : vc30 (real Try.prog) a0 H (retF v H1)) : Ret Try.prog 30 [a0] H v H1 :=
  ret_mk (an := an30) hm Try.call30 Try.func30 rfl wf30 hd hn hb (Eq.mpr (tie30 (real Try.prog) a0 H (retF v H1)) h)
theorem mko30 (a0 : V) {H : Hp} {xs : List V} {H1 : Hp} (hn : H.length ≤ H1.length) (hb : H1 = H ∨ ∀ (b : Nat) (blk : Blk), H1[b]? = some blk → H[b]? = some blk ∨ BelB H1.length blk) (h : vc30 (real Try.prog) a0 H (retO xs H1)) : Ret Try.prog 30 [a0] H (.arr xs .own) H1 :=
  ret_mko (an := an30) (t := 2) hm Try.call30 Try.func30 rfl wf30 rfl hn hb (Eq.mpr (tie30 (real Try.prog) a0 H (retO xs H1)) h)

/- declaim/declaimref07.SameMarked -/
def an31 : An := { imm := [2, 3], jn := [], lp := [], loud := [], ord := [] }
def vc31 (C : Cb) (a0 a1 : V) (H : Hp) (R : List V → Hp → Prop) : Prop :=
 C.aBx true 2 a0.nod H fun (v1 : V) (H2 : Hp) =>
 C.aBx true 2 a1.nod H2 fun (v3 : V) (H4 : Hp) =>
 C.aFA 0 1 false v1.nod fun (v5 : V) =>
 C.aLd 1 false false v5.nod H4 fun (v6 : V) (H7 : Hp) =>
 C.aFA 0 1 false v3.nod fun (v8 : V) =>
 C.aLd 1 false false v8.nod H7 fun (v9 : V) (H10 : Hp) =>
 C.call 21 [v6.nod, v9.nod] H10 fun (v11 : V) (H12 : Hp) =>
 Jv (fun (v13 : V) (H14 : Hp) =>
 R [v13] H14)
 (fun (R15 : V → Hp → Prop) =>
 aG v11.nod true (
 C.aFA 1 1 false v1.nod fun (v16 : V) =>
 C.aLd 1 false false v16.nod H12 fun (v17 : V) (H18 : Hp) =>
 C.aFA 1 1 false v3.nod fun (v19 : V) =>
 C.aLd 1 false false v19.nod H18 fun (v20 : V) (H21 : Hp) =>
 C.call 21 [v17.nod, v20.nod] H21 fun (v22 : V) (H23 : Hp) =>
 R15 v22.nod H23) (
 R15 (B false) H12))
theorem wf31 : (Nat.ble 2 Try.f31.ntmps && wfC an31 Try.f31.ntmps (Try.f31.body.getD .skip)) = true := by kernel_rfl
theorem tie31 (C : Cb) (a0 a1 : V) (H : Hp) (R : List V → Hp → Prop) : wpG Try.prog C an31 (Try.f31.body.getD .skip) (argF [a0, a1]) H (retG Try.prog C Try.f31 R) (fun _ _ _ => False) (retG Try.prog C Try.f31 R) = vc31 C a0 a1 H R := by kernel_rfl
theorem mk31 (a0 a1 : V) {H : Hp} {v : V} {H1 : Hp} (hd : v.Nd) (hn : H.length ≤ H1.length) (hb : H1 = H ∨ ∀ (b : Nat) (blk : Blk), H1[b]? = some blk → H[b]? = some blk ∨ BelB H1.length blk) (h : vc31 (real Try.prog) a0 a1 H (retF v H1)) : Ret Try.prog 31 [a0, a1] H v H1 :=
  ret_mk (an := an31) hm Try.call31 Try.func31 rfl wf31 hd hn hb (Eq.mpr (tie31 (real Try.prog) a0 a1 H (retF v H1)) h)
theorem mko31 (a0 a1 : V) {H : Hp} {xs : List V} {H1 : Hp} (hn : H.length ≤ H1.length) (hb : H1 = H ∨ ∀ (b : Nat) (blk : Blk), H1[b]? = some blk → H[b]? = some blk ∨ BelB H1.length blk) (h : vc31 (real Try.prog) a0 a1 H (retO xs H1)) : Ret Try.prog 31 [a0, a1] H (.arr xs .own) H1 :=
  ret_mko (an := an31) (t := 4) hm Try.call31 Try.func31 rfl wf31 rfl hn hb (Eq.mpr (tie31 (real Try.prog) a0 a1 H (retO xs H1)) h)

/- declaim/declaimref07.Periods -/
def an32 : An := { imm := [1], jn := [(4, [1, 3, 4])], lp := [(3, [1, 3, 4])], loud := [], ord := [] }
def vc32 (C : Cb) (a0 : V) (H : Hp) (R : List V → Hp → Prop) : Prop :=
 C.aBx true 2 a0.nod H fun (v1 : V) (H2 : Hp) =>
 LoopA (fun (l3 : List V) (H4 : Hp) (K5 : List V → Hp → Prop) =>
 C.aBin (Try.prog.underlying 3) .add (l3.getD 2 .junk).nod.nod (I 1) fun (v6 : V) =>
 C.aFA 1 1 false (l3.getD 0 .junk).nod fun (v7 : V) =>
 C.aLd 1 false false v7.nod H4 fun (v8 : V) (H9 : Hp) =>
 C.aLen v8.nod fun (v10 : V) =>
 C.aBin (Try.prog.underlying 3) .lss v6.nod v10.nod fun (v11 : V) =>
 aCond v11.nod (
 Jn (fun (l12 : List V) (H13 : Hp) =>
 C.aBin (Try.prog.underlying 3) .add (l12.getD 2 .junk).nod.nod (I 1) fun (v15 : V) =>
 K5 [(l12.getD 0 .junk), (l12.getD 1 .junk), v15] H13)
 (fun (R14 : List V → Hp → Prop) =>
 C.aFA 0 1 false (l3.getD 0 .junk).nod fun (v16 : V) =>
 C.aLd 1 false false v16.nod H9 fun (v17 : V) (H18 : Hp) =>
 C.aFA 1 1 false (l3.getD 0 .junk).nod fun (v19 : V) =>
 C.aLd 1 false false v19.nod H18 fun (v20 : V) (H21 : Hp) =>
 C.aIx 1 v20.nod (l3.getD 2 .junk).nod.nod fun (v22 : V) =>
 C.aLd 1 false false v22.nod H21 fun (v23 : V) (H24 : Hp) =>
 C.aFA 1 1 false (l3.getD 0 .junk).nod fun (v25 : V) =>
 C.aLd 1 false false v25.nod H24 fun (v26 : V) (H27 : Hp) =>
 C.aBin (Try.prog.underlying 3) .add (l3.getD 2 .junk).nod.nod (I 1) fun (v28 : V) =>
 C.aIx 1 v26.nod v28.nod fun (v29 : V) =>
 C.aLd 1 false false v29.nod H27 fun (v30 : V) (H31 : Hp) =>
 C.aSlc 1 v17.nod (some v23.nod) (some v30.nod) none fun (v32 : V) =>
 C.aBS 1 1 (V.arr [] .full) [(0, v32.nod)] fun (v33 : V) =>
 C.aApp 1 24 (l3.getD 1 .junk) v33.nod fun (v34 : V) =>
 R14 [(l3.getD 0 .junk), v34, (l3.getD 2 .junk)] H31)) (
 R [(l3.getD 1 .junk).nod] H9))
 [v1, (V.arr [] .full), (I 0)] H2
theorem wf32 : (Nat.ble 1 Try.f32.ntmps && wfC an32 Try.f32.ntmps (Try.f32.body.getD .skip)) = true := by kernel_rfl
theorem tie32 (C : Cb) (a0 : V) (H : Hp) (R : List V → Hp → Prop) : wpG Try.prog C an32 (Try.f32.body.getD .skip) (argF [a0]) H (retG Try.prog C Try.f32 R) (fun _ _ _ => False) (retG Try.prog C Try.f32 R) = vc32 C a0 H R := by kernel_rfl
theorem mk32 (a0 : V) {H : Hp} {v : V} {H1 : Hp} (hd : v.Nd) (hn : H.length ≤ H1.length) (hb : H1 = H ∨ ∀ (b : Nat) (blk : Blk), H1[b]? = some blk → H[b]? = some blk ∨ BelB H1.length blk) (h : vc32 (real Try.prog) a0 H (retF v H1)) : Ret Try.prog 32 [a0] H v H1 :=
  ret_mk (an := an32) hm Try.call32 Try.func32 rfl wf32 hd hn hb (Eq.mpr (tie32 (real Try.prog) a0 H (retF v H1)) h)
theorem mko32 (a0 : V) {H : Hp} {xs : List V} {H1 : Hp} (hn : H.length ≤ H1.length) (hb : H1 = H ∨ ∀ (b : Nat) (blk : Blk), H1[b]? = some blk → H[b]? = some blk ∨ BelB H1.length blk) (h : vc32 (real Try.prog) a0 H (retO xs H1)) : Ret Try.prog 32 [a0] H (.arr xs .own) H1 :=
  ret_mko (an := an32) (t := 2) hm Try.call32 Try.func32 rfl wf32 rfl hn hb (Eq.mpr (tie32 (real Try.prog) a0 H (retO xs H1)) h)

/- declaim/declaimlaw07.marked -/
def an33 : An := { imm := [1], jn := [], lp := [], loud := [], ord := [] }
def vc33 (C : Cb) (a0 : V) (H : Hp) (R : List V → Hp → Prop) : Prop :=
 C.aBx true 2 a0.nod H fun (v1 : V) (H2 : Hp) =>
 C.aFA 0 1 false v1.nod fun (v3 : V) =>
 C.aLd 1 false false v3.nod H2 fun (v4 : V) (H5 : Hp) =>
 C.call 17 [v4.nod] H5 fun (v6 : V) (H7 : Hp) =>
 Jv (fun (v8 : V) (H9 : Hp) =>
 R [v8] H9)
 (fun (R10 : V → Hp → Prop) =>
 aG v6.nod true (
 C.aFA 1 1 false v1.nod fun (v11 : V) =>
 C.aLd 1 false false v11.nod H7 fun (v12 : V) (H13 : Hp) =>
 C.aLen v12.nod fun (v14 : V) =>
 C.aBin (Try.prog.underlying 3) .leq v14.nod (I 500) fun (v15 : V) =>
 R10 v15.nod H13) (
 R10 (B false) H7))
theorem wf33 : (Nat.ble 1 Try.f33.ntmps && wfC an33 Try.f33.ntmps (Try.f33.body.getD .skip)) = true := by kernel_rfl
theorem tie33 (C : Cb) (a0 : V) (H : Hp) (R : List V → Hp → Prop) : wpG Try.prog C an33 (Try.f33.body.getD .skip) (argF [a0]) H (retG Try.prog C Try.f33 R) (fun _ _ _ => False) (retG Try.prog C Try.f33 R) = vc33 C a0 H R := by kernel_rfl
theorem mk33 (a0 : V) {H : Hp} {v : V} {H1 : Hp} (hd : v.Nd) (hn : H.length ≤ H1.length) (hb : H1 = H ∨ ∀ (b : Nat) (blk : Blk), H1[b]? = some blk → H[b]? = some blk ∨ BelB H1.length blk) (h : vc33 (real Try.prog) a0 H (retF v H1)) : Ret Try.prog 33 [a0] H v H1 :=
  ret_mk (an := an33) hm Try.call33 Try.func33 rfl wf33 hd hn hb (Eq.mpr (tie33 (real Try.prog) a0 H (retF v H1)) h)
theorem mko33 (a0 : V) {H : Hp} {xs : List V} {H1 : Hp} (hn : H.length ≤ H1.length) (hb : H1 = H ∨ ∀ (b : Nat) (blk : Blk), H1[b]? = some blk → H[b]? = some blk ∨ BelB H1.length blk) (h : vc33 (real Try.prog) a0 H (retO xs H1)) : Ret Try.prog 33 [a0] H (.arr xs .own) H1 :=
  ret_mko (an := an33) (t := 2) hm Try.call33 Try.func33 rfl wf33 rfl hn hb (Eq.mpr (tie33 (real Try.prog) a0 H (retO xs H1)) h)

/- declaim/join.Sing -/
def an34 : An := { imm := [3], jn := [], lp := [], loud := [], ord := [] }
def vc34 (C : Cb) (a0 a1 a2 : V) (H : Hp) (R : List V → Hp → Prop) : Prop :=
 C.aBx true 2 a0.nod H fun (v1 : V) (H2 : Hp) =>
 C.aBx false 2 (V.agg [(V.arr [] .full), (V.arr [] .full)]) H2 fun (v3 : V) (H4 : Hp) =>
 C.aLd 2 true false v1.nod H4 fun (v5 : V) (H6 : Hp) =>
 C.aBd [(I 0), (I 0)] [(0, 1, a1.nod.nod), (1, 1, a2.nod.nod.nod)] fun (v7 : V) =>
 C.aBS 1 2 (V.imm .nilFunc) [(0, (V.fn 66 [])), (1, (V.fn 65 []))] fun (v8 : V) =>
 C.call 64 [v5.nod, (own0 v7 a1.nod).nod, v8.nod] H6 fun (v9 : V) (H10 : Hp) =>
 C.aExt 0 v9.nod fun (v11 : V) =>
 C.aExt 1 v9.nod fun (v12 : V) =>
 C.aSt 2 v3.nod v11 H10 fun (v13 : V) (H14 : Hp) =>
 C.aRes 2 true v3 H14 fun (v15 : V) =>
 R [v15, v12] H14
theorem wf34 : (Nat.ble 3 Try.f34.ntmps && wfC an34 Try.f34.ntmps (Try.f34.body.getD .skip)) = true := by kernel_rfl
theorem tie34 (C : Cb) (a0 a1 a2 : V) (H : Hp) (R : List V → Hp → Prop) : wpG Try.prog C an34 (Try.f34.body.getD .skip) (argF [a0, a1, a2]) H (retG Try.prog C Try.f34 R) (fun _ _ _ => False) (retG Try.prog C Try.f34 R) = vc34 C a0 a1 a2 H R := by kernel_rfl
theorem mk34 (a0 a1 a2 : V) {H : Hp} {v : V} {H1 : Hp} (hd : v.Nd) (hn : H.length ≤ H1.length) (hb : H1 = H ∨ ∀ (b : Nat) (blk : Blk), H1[b]? = some blk → H[b]? = some blk ∨ BelB H1.length blk) (h : vc34 (real Try.prog) a0 a1 a2 H (retF v H1)) : Ret Try.prog 34 [a0, a1, a2] H v H1 :=
  ret_mk (an := an34) hm Try.call34 Try.func34 rfl wf34 hd hn hb (Eq.mpr (tie34 (real Try.prog) a0 a1 a2 H (retF v H1)) h)

/- declaim/declaimref07.Stretch -/
def an35 : An := { imm := [3], jn := [(3, [3, 6, 7, 8]), (6, [3, 6, 7, 8, 9, 10])], lp := [(5, [3, 6, 7, 8, 9, 10])], loud := [], ord := [] }
def vc35 (C : Cb) (a0 a1 a2 : V) (H : Hp) (R : List V → Hp → Prop) : Prop :=
 C.aBx true 2 a0.nod H fun (v1 : V) (H2 : Hp) =>
 C.aBx false 2 (V.agg [(V.arr [] .full), (V.arr [] .full)]) H2 fun (v3 : V) (H4 : Hp) =>
 C.aLd 2 true false v1.nod H4 fun (v5 : V) (H6 : Hp) =>
 C.call 32 [v5.nod] H6 fun (v7 : V) (H8 : Hp) =>
 Jn (fun (l9 : List V) (H10 : Hp) =>
 LoopA (fun (l12 : List V) (H13 : Hp) (K14 : List V → Hp → Prop) =>
 C.aBin (Try.prog.underlying 3) .lss (l12.getD 5 .junk).nod.nod (l12.getD 3 .junk).nod.nod fun (v15 : V) =>
 aCond v15.nod (
 Jn (fun (l16 : List V) (H17 : Hp) =>
 C.aBin (Try.prog.underlying 3) .add (l16.getD 5 .junk).nod.nod (I 1) fun (v19 : V) =>
 K14 [(l16.getD 0 .junk), (l16.getD 1 .junk), (l16.getD 2 .junk), (l16.getD 3 .junk), (l16.getD 4 .junk), v19] H17)
 (fun (R18 : List V → Hp → Prop) =>
 C.aLen (l12.getD 2 .junk).nod.nod fun (v20 : V) =>
 C.aBin (Try.prog.underlying 3) .mul (l12.getD 5 .junk).nod.nod v20.nod fun (v21 : V) =>
 C.aBin (Try.prog.underlying 3) .quo v21.nod (l12.getD 3 .junk).nod.nod fun (v22 : V) =>
 C.aIx 1 (l12.getD 2 .junk).nod.nod v22.nod fun (v23 : V) =>
 C.aLd 1 false false v23.nod H13 fun (v24 : V) (H25 : Hp) =>
 C.aBS 1 1 (V.arr [] .full) [(0, v24.nod)] fun (v26 : V) =>
 C.aApp 1 24 (l12.getD 4 .junk) v26.nod fun (v27 : V) =>
 R18 [(l12.getD 0 .junk), (l12.getD 1 .junk), (l12.getD 2 .junk), (l12.getD 3 .junk), v27, (l12.getD 5 .junk)] H25)) (
 C.aLd 2 true false (l12.getD 0 .junk).nod H13 fun (v28 : V) (H29 : Hp) =>
 C.call 68 [v28.nod, (l12.getD 4 .junk).nod.nod] H29 fun (v30 : V) (H31 : Hp) =>
 C.aSt 2 (l12.getD 1 .junk).nod v30 H31 fun (v32 : V) (H33 : Hp) =>
 C.aRes 2 true (l12.getD 1 .junk) H33 fun (v34 : V) =>
 R [v34] H33))
 [(l9.getD 0 .junk), (l9.getD 1 .junk), (l9.getD 2 .junk), (l9.getD 3 .junk), (V.arr [] .full), (I 0)] H10)
 (fun (R11 : List V → Hp → Prop) =>
 C.aLen v7.nod.nod fun (v35 : V) =>
 C.aBin (Try.prog.underlying 3) .mul v35.nod a1.nod.nod fun (v36 : V) =>
 C.call 67 [v36.nod, a2.nod.nod] H8 fun (v37 : V) (H38 : Hp) =>
 R11 [v1, v3, v7, v37] H38)
theorem wf35 : (Nat.ble 3 Try.f35.ntmps && wfC an35 Try.f35.ntmps (Try.f35.body.getD .skip)) = true := by kernel_rfl
theorem tie35 (C : Cb) (a0 a1 a2 : V) (H : Hp) (R : List V → Hp → Prop) : wpG Try.prog C an35 (Try.f35.body.getD .skip) (argF [a0, a1, a2]) H (retG Try.prog C Try.f35 R) (fun _ _ _ => False) (retG Try.prog C Try.f35 R) = vc35 C a0 a1 a2 H R := by kernel_rfl
theorem mk35 (a0 a1 a2 : V) {H : Hp} {v : V} {H1 : Hp} (hd : v.Nd) (hn : H.length ≤ H1.length) (hb : H1 = H ∨ ∀ (b : Nat) (blk : Blk), H1[b]? = some blk → H[b]? = some blk ∨ BelB H1.length blk) (h : vc35 (real Try.prog) a0 a1 a2 H (retF v H1)) : Ret Try.prog 35 [a0, a1, a2] H v H1 :=
  ret_mk (an := an35) hm Try.call35 Try.func35 rfl wf35 hd hn hb (Eq.mpr (tie35 (real Try.prog) a0 a1 a2 H (retF v H1)) h)

/- declaim/declaimref07.Transpose -/
def an36 : An := { imm := [3], jn := [(9, [1, 2, 3, 6, 7, 8, 9, 10, 11])], lp := [(4, [1, 2, 3, 6, 7, 8, 9]), (8, [1, 2, 3, 6, 7, 8, 9, 10, 11])], loud := [], ord := [] }
def vc36 (C : Cb) (a0 a1 a2 : V) (H : Hp) (R : List V → Hp → Prop) : Prop :=
 C.aBx true 2 a0.nod H fun (v1 : V) (H2 : Hp) =>
 C.aBx false 2 (V.agg [(V.arr [] .full), (V.arr [] .full)]) H2 fun (v3 : V) (H4 : Hp) =>
 C.aLd 2 true false v1.nod H4 fun (v5 : V) (H6 : Hp) =>
 C.call 32 [v5.nod] H6 fun (v7 : V) (H8 : Hp) =>
 LoopA (fun (l9 : List V) (H10 : Hp) (K11 : List V → Hp → Prop) =>
 C.aLen (l9.getD 4 .junk).nod.nod fun (v12 : V) =>
 C.aBin (Try.prog.underlying 3) .lss (l9.getD 6 .junk).nod.nod v12.nod fun (v13 : V) =>
 aCond v13.nod (
 LoopA (fun (l14 : List V) (H15 : Hp) (K16 : List V → Hp → Prop) =>
 C.aIx 1 (l14.getD 4 .junk).nod.nod (l14.getD 6 .junk).nod.nod fun (v17 : V) =>
 C.aLd 1 false false v17.nod H15 fun (v18 : V) (H19 : Hp) =>
 C.aLen v18.nod fun (v20 : V) =>
 C.aBin (Try.prog.underlying 3) .mul v20.nod (l14.getD 1 .junk).nod.nod fun (v21 : V) =>
 C.call 67 [v21.nod, (l14.getD 0 .junk).nod.nod] H19 fun (v22 : V) (H23 : Hp) =>
 C.aBin (Try.prog.underlying 3) .lss (l14.getD 8 .junk).nod.nod v22.nod fun (v24 : V) =>
 aCond v24.nod (
 Jn (fun (l25 : List V) (H26 : Hp) =>
 C.aBin (Try.prog.underlying 3) .add (l25.getD 8 .junk).nod.nod (I 1) fun (v28 : V) =>
 K16 [(l25.getD 0 .junk), (l25.getD 1 .junk), (l25.getD 2 .junk), (l25.getD 3 .junk), (l25.getD 4 .junk), (l25.getD 5 .junk), (l25.getD 6 .junk), (l25.getD 7 .junk), v28] H26)
 (fun (R27 : List V → Hp → Prop) =>
 C.aIx 1 (l14.getD 4 .junk).nod.nod (l14.getD 6 .junk).nod.nod fun (v29 : V) =>
 C.aLd 1 false false v29.nod H23 fun (v30 : V) (H31 : Hp) =>
 C.aIx 1 (l14.getD 4 .junk).nod.nod (l14.getD 6 .junk).nod.nod fun (v32 : V) =>
 C.aLd 1 false false v32.nod H31 fun (v33 : V) (H34 : Hp) =>
 C.aLen v33.nod fun (v35 : V) =>
 C.aBin (Try.prog.underlying 3) .sub v35.nod (I 1) fun (v36 : V) =>
 C.aMM false [(l14.getD 8 .junk).nod.nod, v36.nod] fun (v37 : V) =>
 C.aIx 1 v30.nod v37.nod fun (v38 : V) =>
 C.aLd 1 false false v38.nod H34 fun (v39 : V) (H40 : Hp) =>
 C.aBS 1 1 (I 0) [(0, v39.nod)] fun (v41 : V) =>
 C.aApp 1 8 (l14.getD 7 .junk) v41.nod fun (v42 : V) =>
 R27 [(l14.getD 0 .junk), (l14.getD 1 .junk), (l14.getD 2 .junk), (l14.getD 3 .junk), (l14.getD 4 .junk), (l14.getD 5 .junk), (l14.getD 6 .junk), v42, (l14.getD 8 .junk)] H40)) (
 C.aBS 1 1 (V.arr [] .full) [(0, (l14.getD 7 .junk).nod.nod)] fun (v43 : V) =>
 C.aApp 1 24 (l14.getD 5 .junk) v43.nod fun (v44 : V) =>
 C.aBin (Try.prog.underlying 3) .add (l14.getD 6 .junk).nod.nod (I 1) fun (v45 : V) =>
 K11 [(l14.getD 0 .junk), (l14.getD 1 .junk), (l14.getD 2 .junk), (l14.getD 3 .junk), (l14.getD 4 .junk), v44, v45] H23))
 [(l9.getD 0 .junk), (l9.getD 1 .junk), (l9.getD 2 .junk), (l9.getD 3 .junk), (l9.getD 4 .junk), (l9.getD 5 .junk), (l9.getD 6 .junk), (V.arr [] .full), (I 0)] H10) (
 C.aLd 2 true false (l9.getD 2 .junk).nod H10 fun (v46 : V) (H47 : Hp) =>
 C.call 68 [v46.nod, (l9.getD 5 .junk).nod.nod] H47 fun (v48 : V) (H49 : Hp) =>
 C.aSt 2 (l9.getD 3 .junk).nod v48 H49 fun (v50 : V) (H51 : Hp) =>
 C.aRes 2 true (l9.getD 3 .junk) H51 fun (v52 : V) =>
 R [v52] H51))
 [a1, a2, v1, v3, v7, (V.arr [] .full), (I 0)] H8
theorem wf36 : (Nat.ble 3 Try.f36.ntmps && wfC an36 Try.f36.ntmps (Try.f36.body.getD .skip)) = true := by kernel_rfl
theorem tie36 (C : Cb) (a0 a1 a2 : V) (H : Hp) (R : List V → Hp → Prop) : wpG Try.prog C an36 (Try.f36.body.getD .skip) (argF [a0, a1, a2]) H (retG Try.prog C Try.f36 R) (fun _ _ _ => False) (retG Try.prog C Try.f36 R) = vc36 C a0 a1 a2 H R := by kernel_rfl
theorem mk36 (a0 a1 a2 : V) {H : Hp} {v : V} {H1 : Hp} (hd : v.Nd) (hn : H.length ≤ H1.length) (hb : H1 = H ∨ ∀ (b : Nat) (blk : Blk), H1[b]? = some blk → H[b]? = some blk ∨ BelB H1.length blk) (h : vc36 (real Try.prog) a0 a1 a2 H (retF v H1)) : Ret Try.prog 36 [a0, a1, a2] H v H1 :=
  ret_mk (an := an36) hm Try.call36 Try.func36 rfl wf36 hd hn hb (Eq.mpr (tie36 (real Try.prog) a0 a1 a2 H (retF v H1)) h)

/- declaim/join.Valid -/
def an37 : An := { imm := [1], jn := [], lp := [], loud := [], ord := [] }
def vc37 (C : Cb) (a0 : V) (H : Hp) (R : List V → Hp → Prop) : Prop :=
 C.aBx true 2 a0.nod H fun (v1 : V) (H2 : Hp) =>
 C.aLd 2 true false v1.nod H2 fun (v3 : V) (H4 : Hp) =>
 C.call 69 [v3.nod] H4 fun (v5 : V) (H6 : Hp) =>
 C.aBin (Try.prog.underlying 25) .eql v5.nod (I 0) fun (v7 : V) =>
 R [v7] H6
theorem wf37 : (Nat.ble 1 Try.f37.ntmps && wfC an37 Try.f37.ntmps (Try.f37.body.getD .skip)) = true := by kernel_rfl
theorem tie37 (C : Cb) (a0 : V) (H : Hp) (R : List V → Hp → Prop) : wpG Try.prog C an37 (Try.f37.body.getD .skip) (argF [a0]) H (retG Try.prog C Try.f37 R) (fun _ _ _ => False) (retG Try.prog C Try.f37 R) = vc37 C a0 H R := by kernel_rfl
theorem mk37 (a0 : V) {H : Hp} {v : V} {H1 : Hp} (hd : v.Nd) (hn : H.length ≤ H1.length) (hb : H1 = H ∨ ∀ (b : Nat) (blk : Blk), H1[b]? = some blk → H[b]? = some blk ∨ BelB H1.length blk) (h : vc37 (real Try.prog) a0 H (retF v H1)) : Ret Try.prog 37 [a0] H v H1 :=
  ret_mk (an := an37) hm Try.call37 Try.func37 rfl wf37 hd hn hb (Eq.mpr (tie37 (real Try.prog) a0 H (retF v H1)) h)
theorem mko37 (a0 : V) {H : Hp} {xs : List V} {H1 : Hp} (hn : H.length ≤ H1.length) (hb : H1 = H ∨ ∀ (b : Nat) (blk : Blk), H1[b]? = some blk → H[b]? = some blk ∨ BelB H1.length blk) (h : vc37 (real Try.prog) a0 H (retO xs H1)) : Ret Try.prog 37 [a0] H (.arr xs .own) H1 :=
  ret_mko (an := an37) (t := 2) hm Try.call37 Try.func37 rfl wf37 rfl hn hb (Eq.mpr (tie37 (real Try.prog) a0 H (retO xs H1)) h)

/- declaim/join.Lag -/
def an38 : An := { imm := [], jn := [(4, [0, 1, 2, 3]), (5, [0, 1, 2, 3, 27]), (7, [12, 13, 14])], lp := [], loud := [], ord := [] }
def vc38 (C : Cb) (a0 a1 a2 a3 : V) (H : Hp) (R : List V → Hp → Prop) : Prop :=
 Jn (fun (l1 : List V) (H2 : Hp) =>
 Jn (fun (l4 : List V) (H5 : Hp) =>
 aCond (l4.getD 4 .junk).nod (
 R [(I 0), (I 0), (I 2)] H5) (
 Jn (fun (l7 : List V) (H8 : Hp) =>
 C.aUn .not (l7.getD 2 .junk).nod.nod fun (v10 : V) =>
 aCond v10.nod (
 R [(I 0), (I 0), (I 5)] H8) (
 R [(l7.getD 0 .junk).nod, (l7.getD 1 .junk).nod, (I 0)] H8))
 (fun (R9 : List V → Hp → Prop) =>
 C.call 62 [(l4.getD 0 .junk).nod.nod, (l4.getD 1 .junk).nod.nod, (l4.getD 2 .junk).nod.nod, (l4.getD 3 .junk).nod.nod] H5 fun (v11 : V) (H12 : Hp) =>
 C.aExt 0 v11.nod.nod fun (v13 : V) =>
 C.aExt 1 v11.nod.nod fun (v14 : V) =>
 C.aExt 2 v11.nod.nod fun (v15 : V) =>
 R9 [v13, v14, v15] H12)))
 (fun (R6 : List V → Hp → Prop) =>
 C.aBin (Try.prog.underlying 3) .lss (l1.getD 2 .junk).nod.nod (I 1) fun (v16 : V) =>
 Jv (fun (v17 : V) (H18 : Hp) =>
 R6 [(l1.getD 0 .junk), (l1.getD 1 .junk), (l1.getD 2 .junk), (l1.getD 3 .junk), v17] H18)
 (fun (R19 : V → Hp → Prop) =>
 aG v16.nod false (
 C.aBin (Try.prog.underlying 3) .lss (l1.getD 3 .junk).nod.nod (I 0) fun (v20 : V) =>
 R19 v20.nod H2) (
 R19 (B true) H2))))
 (fun (R3 : List V → Hp → Prop) =>
 C.aBS 1 2 (V.arr [] .full) [(0, a0.nod.nod), (1, a1.nod.nod)] fun (v21 : V) =>
 C.call 57 [v21.nod] H fun (v22 : V) (H23 : Hp) =>
 C.aBin (Try.prog.underlying 25) .neq v22.nod.nod (I 0) fun (v24 : V) =>
 aCond v24.nod (
 R [(I 0), (I 0), v22.nod] H23) (
 R3 [a0, a1, a2, a3] H23))
theorem wf38 : (Nat.ble 4 Try.f38.ntmps && wfC an38 Try.f38.ntmps (Try.f38.body.getD .skip)) = true := by kernel_rfl
theorem tie38 (C : Cb) (a0 a1 a2 a3 : V) (H : Hp) (R : List V → Hp → Prop) : wpG Try.prog C an38 (Try.f38.body.getD .skip) (argF [a0, a1, a2, a3]) H (retG Try.prog C Try.f38 R) (fun _ _ _ => False) (retG Try.prog C Try.f38 R) = vc38 C a0 a1 a2 a3 H R := by kernel_rfl
theorem mk38 (a0 a1 a2 a3 : V) {H : Hp} {v : V} {H1 : Hp} (hd : v.Nd) (hn : H.length ≤ H1.length) (hb : H1 = H ∨ ∀ (b : Nat) (blk : Blk), H1[b]? = some blk → H[b]? = some blk ∨ BelB H1.length blk) (h : vc38 (real Try.prog) a0 a1 a2 a3 H (retF v H1)) : Ret Try.prog 38 [a0, a1, a2, a3] H v H1 :=
  ret_mk (an := an38) hm Try.call38 Try.func38 rfl wf38 hd hn hb (Eq.mpr (tie38 (real Try.prog) a0 a1 a2 a3 H (retF v H1)) h)

/- declaim/declaimref07.Lag -/
def an39 : An := { imm := [], jn := [(4, [0, 1, 2, 3, 10, 11]), (5, [0, 1, 2, 3, 10, 11]), (6, [0, 1, 2, 3, 10, 11, 38])], lp := [(3, [0, 1, 2, 3, 10, 11])], loud := [], ord := [] }
def vc39 (C : Cb) (a0 a1 a2 a3 : V) (H : Hp) (R : List V → Hp → Prop) : Prop :=
 LoopA (fun (l1 : List V) (H2 : Hp) (K3 : List V → Hp → Prop) =>
 Jn (fun (l4 : List V) (H5 : Hp) =>
 Jn (fun (l7 : List V) (H8 : Hp) =>
 C.aBin (Try.prog.underlying 3) .add (l7.getD 5 .junk).nod.nod (I 1) fun (v10 : V) =>
 K3 [(l7.getD 0 .junk), (l7.getD 1 .junk), (l7.getD 2 .junk), (l7.getD 3 .junk), (l7.getD 4 .junk), v10] H8)
 (fun (R9 : List V → Hp → Prop) =>
 Jn (fun (l11 : List V) (H12 : Hp) =>
 aCond (l11.getD 6 .junk).nod (
 R9 [(l11.getD 0 .junk), (l11.getD 1 .junk), (l11.getD 2 .junk), (l11.getD 3 .junk), (l11.getD 5 .junk).nod, (l11.getD 5 .junk)] H12) (
 R9 [(l11.getD 0 .junk), (l11.getD 1 .junk), (l11.getD 2 .junk), (l11.getD 3 .junk), (l11.getD 4 .junk), (l11.getD 5 .junk)] H12))
 (fun (R13 : List V → Hp → Prop) =>
 C.aBin (Try.prog.underlying 3) .lss (l4.getD 4 .junk).nod.nod (I 0) fun (v14 : V) =>
 Jv (fun (v15 : V) (H16 : Hp) =>
 R13 [(l4.getD 0 .junk), (l4.getD 1 .junk), (l4.getD 2 .junk), (l4.getD 3 .junk), (l4.getD 4 .junk), (l4.getD 5 .junk), v15] H16)
 (fun (R17 : V → Hp → Prop) =>
 aG v14.nod false (
 C.call 40 [(l4.getD 0 .junk).nod.nod, (l4.getD 1 .junk).nod.nod, (l4.getD 2 .junk).nod.nod, (l4.getD 5 .junk).nod.nod] H5 fun (v18 : V) (H19 : Hp) =>
 C.call 40 [(l4.getD 0 .junk).nod.nod, (l4.getD 1 .junk).nod.nod, (l4.getD 2 .junk).nod.nod, (l4.getD 4 .junk).nod.nod] H19 fun (v20 : V) (H21 : Hp) =>
 C.aBin (Try.prog.underlying 3) .lss v18.nod v20.nod fun (v22 : V) =>
 R17 v22.nod H21) (
 R17 (B true) H5)))))
 (fun (R6 : List V → Hp → Prop) =>
 C.aBin (Try.prog.underlying 3) .leq (l1.getD 5 .junk).nod.nod (l1.getD 3 .junk).nod.nod fun (v23 : V) =>
 Jv (fun (v24 : V) (H25 : Hp) =>
 aCond v24.nod (
 R6 [(l1.getD 0 .junk), (l1.getD 1 .junk), (l1.getD 2 .junk), (l1.getD 3 .junk), (l1.getD 4 .junk), (l1.getD 5 .junk)] H25) (
 C.aBin (Try.prog.underlying 3) .geq (l1.getD 4 .junk).nod.nod (I 0) fun (v29 : V) =>
 R [(l1.getD 4 .junk).nod, v29] H25))
 (fun (R26 : V → Hp → Prop) =>
 aG v23.nod true (
 C.call 45 [(l1.getD 0 .junk).nod.nod, (l1.getD 1 .junk).nod.nod, (l1.getD 2 .junk).nod.nod, (l1.getD 5 .junk).nod.nod] H2 fun (v27 : V) (H28 : Hp) =>
 R26 v27.nod H28) (
 R26 (B false) H2))))
 [a0, a1, a2, a3, (I (-1)), (I 0)] H
theorem wf39 : (Nat.ble 4 Try.f39.ntmps && wfC an39 Try.f39.ntmps (Try.f39.body.getD .skip)) = true := by kernel_rfl
theorem tie39 (C : Cb) (a0 a1 a2 a3 : V) (H : Hp) (R : List V → Hp → Prop) : wpG Try.prog C an39 (Try.f39.body.getD .skip) (argF [a0, a1, a2, a3]) H (retG Try.prog C Try.f39 R) (fun _ _ _ => False) (retG Try.prog C Try.f39 R) = vc39 C a0 a1 a2 a3 H R := by kernel_rfl
theorem mk39 (a0 a1 a2 a3 : V) {H : Hp} {v : V} {H1 : Hp} (hd : v.Nd) (hn : H.length ≤ H1.length) (hb : H1 = H ∨ ∀ (b : Nat) (blk : Blk), H1[b]? = some blk → H[b]? = some blk ∨ BelB H1.length blk) (h : vc39 (real Try.prog) a0 a1 a2 a3 H (retF v H1)) : Ret Try.prog 39 [a0, a1, a2, a3] H v H1 :=
  ret_mk (an := an39) hm Try.call39 Try.func39 rfl wf39 hd hn hb (Eq.mpr (tie39 (real Try.prog) a0 a1 a2 a3 H (retF v H1)) h)

/- declaim/declaimref07.Mismatch -/
def an40 : An := { imm := [], jn := [(6, [0, 1, 2, 3, 9, 10, 11])], lp := [(3, [0, 1, 2, 3, 9, 10])], loud := [], ord := [] }
def vc40 (C : Cb) (a0 a1 a2 a3 : V) (H : Hp) (R : List V → Hp → Prop) : Prop :=
 LoopA (fun (l1 : List V) (H2 : Hp) (K3 : List V → Hp → Prop) =>
 C.aBin (Try.prog.underlying 3) .lss (l1.getD 5 .junk).nod.nod (l1.getD 2 .junk).nod.nod fun (v4 : V) =>
 aCond v4.nod (
 Jn (fun (l5 : List V) (H6 : Hp) =>
 C.aBin (Try.prog.underlying 3) .mul (l5.getD 6 .junk).nod.nod (l5.getD 6 .junk).nod.nod fun (v8 : V) =>
 C.aBin (Try.prog.underlying 3) .add (l5.getD 4 .junk).nod.nod v8.nod fun (v9 : V) =>
 C.aBin (Try.prog.underlying 3) .add (l5.getD 5 .junk).nod.nod (I 1) fun (v10 : V) =>
 K3 [(l5.getD 0 .junk), (l5.getD 1 .junk), (l5.getD 2 .junk), (l5.getD 3 .junk), v9, v10] H6)
 (fun (R7 : List V → Hp → Prop) =>
 C.aLen (l1.getD 0 .junk).nod.nod fun (v11 : V) =>
 C.aBin (Try.prog.underlying 3) .sub v11.nod (l1.getD 2 .junk).nod.nod fun (v12 : V) =>
 C.aBin (Try.prog.underlying 3) .add v12.nod (l1.getD 5 .junk).nod.nod fun (v13 : V) =>
 C.aIx 1 (l1.getD 0 .junk).nod.nod v13.nod fun (v14 : V) =>
 C.aLd 1 false false v14.nod H2 fun (v15 : V) (H16 : Hp) =>
 C.aBin (Try.prog.underlying 3) .add (l1.getD 3 .junk).nod.nod (l1.getD 5 .junk).nod.nod fun (v17 : V) =>
 C.aIx 1 (l1.getD 1 .junk).nod.nod v17.nod fun (v18 : V) =>
 C.aLd 1 false false v18.nod H16 fun (v19 : V) (H20 : Hp) =>
 C.aBin (Try.prog.underlying 3) .sub v15.nod v19.nod fun (v21 : V) =>
 R7 [(l1.getD 0 .junk), (l1.getD 1 .junk), (l1.getD 2 .junk), (l1.getD 3 .junk), (l1.getD 4 .junk), (l1.getD 5 .junk), v21] H20)) (
 R [(l1.getD 4 .junk).nod] H2))
 [a0, a1, a2, a3, (I 0), (I 0)] H
theorem wf40 : (Nat.ble 4 Try.f40.ntmps && wfC an40 Try.f40.ntmps (Try.f40.body.getD .skip)) = true := by kernel_rfl
theorem tie40 (C : Cb) (a0 a1 a2 a3 : V) (H : Hp) (R : List V → Hp → Prop) : wpG Try.prog C an40 (Try.f40.body.getD .skip) (argF [a0, a1, a2, a3]) H (retG Try.prog C Try.f40 R) (fun _ _ _ => False) (retG Try.prog C Try.f40 R) = vc40 C a0 a1 a2 a3 H R := by kernel_rfl
theorem mk40 (a0 a1 a2 a3 : V) {H : Hp} {v : V} {H1 : Hp} (hd : v.Nd) (hn : H.length ≤ H1.length) (hb : H1 = H ∨ ∀ (b : Nat) (blk : Blk), H1[b]? = some blk → H[b]? = some blk ∨ BelB H1.length blk) (h : vc40 (real Try.prog) a0 a1 a2 a3 H (retF v H1)) : Ret Try.prog 40 [a0, a1, a2, a3] H v H1 :=
  ret_mk (an := an40) hm Try.call40 Try.func40 rfl wf40 hd hn hb (Eq.mpr (tie40 (real Try.prog) a0 a1 a2 a3 H (retF v H1)) h)
theorem mko40 (a0 a1 a2 a3 : V) {H : Hp} {xs : List V} {H1 : Hp} (hn : H.length ≤ H1.length) (hb : H1 = H ∨ ∀ (b : Nat) (blk : Blk), H1[b]? = some blk → H[b]? = some blk ∨ BelB H1.length blk) (h : vc40 (real Try.prog) a0 a1 a2 a3 H (retO xs H1)) : Ret Try.prog 40 [a0, a1, a2, a3] H (.arr xs .own) H1 :=
  ret_mko (an := an40) (t := 8) hm Try.call40 Try.func40 rfl wf40 rfl hn hb (Eq.mpr (tie40 (real Try.prog) a0 a1 a2 a3 H (retO xs H1)) h)

/- declaim/join.Mismatch -/
def an41 : An := { imm := [], jn := [(4, [0, 1, 2, 3]), (8, [1, 3, 11, 32, 33, 34]), (12, [11])], lp := [(8, [1, 3, 11, 32, 33, 34])], loud := [], ord := [] }
def vc41 (C : Cb) (a0 a1 a2 a3 : V) (H : Hp) (R : List V → Hp → Prop) : Prop :=
 Jn (fun (l1 : List V) (H2 : Hp) =>
 C.call 70 [(l1.getD 0 .junk).nod.nod, (l1.getD 1 .junk).nod.nod, (l1.getD 2 .junk).nod.nod, (l1.getD 3 .junk).nod.nod] H2 fun (v4 : V) (H5 : Hp) =>
 C.aUn .not v4.nod fun (v6 : V) =>
 aCond v6.nod (
 R [(I 0), (I 2)] H5) (
 Jn (fun (l7 : List V) (H8 : Hp) =>
 R [(l7.getD 0 .junk).nod, (I 0)] H8)
 (fun (R9 : List V → Hp → Prop) =>
 Jn (fun (l10 : List V) (H11 : Hp) =>
 LoopA (fun (l13 : List V) (H14 : Hp) (K15 : List V → Hp → Prop) =>
 C.aBin (Try.prog.underlying 3) .lss (l13.getD 5 .junk).nod (l13.getD 4 .junk).nod fun (v16 : V) =>
 aCond v16.nod (
 C.aIx 1 (l13.getD 3 .junk).nod (l13.getD 5 .junk).nod fun (v17 : V) =>
 C.aLd 1 false false v17.nod H14 fun (v18 : V) (H19 : Hp) =>
 C.aBin (Try.prog.underlying 3) .add (l13.getD 1 .junk).nod.nod (l13.getD 5 .junk).nod.nod.nod fun (v20 : V) =>
 C.aIx 1 (l13.getD 0 .junk).nod.nod v20.nod fun (v21 : V) =>
 C.aLd 1 false false v21.nod H19 fun (v22 : V) (H23 : Hp) =>
 C.aBin (Try.prog.underlying 3) .sub v18.nod.nod v22.nod fun (v24 : V) =>
 C.aBin (Try.prog.underlying 3) .add (l13.getD 1 .junk).nod.nod (l13.getD 5 .junk).nod.nod.nod fun (v25 : V) =>
 C.aIx 1 (l13.getD 0 .junk).nod.nod v25.nod fun (v26 : V) =>
 C.aLd 1 false false v26.nod H23 fun (v27 : V) (H28 : Hp) =>
 C.aBin (Try.prog.underlying 3) .sub v18.nod.nod v27.nod fun (v29 : V) =>
 C.aBin (Try.prog.underlying 3) .mul v24.nod v29.nod fun (v30 : V) =>
 C.aBin (Try.prog.underlying 3) .add (l13.getD 2 .junk).nod.nod v30.nod fun (v31 : V) =>
 C.aBin (Try.prog.underlying 3) .add (l13.getD 5 .junk).nod (I 1) fun (v32 : V) =>
 K15 [(l13.getD 0 .junk), (l13.getD 1 .junk), v31, (l13.getD 3 .junk), (l13.getD 4 .junk), v32.nod] H28) (
 R9 [(l13.getD 2 .junk)] H14))
 [(l10.getD 0 .junk), (l10.getD 1 .junk), (l10.getD 2 .junk), (l10.getD 3 .junk), (l10.getD 4 .junk), (l10.getD 5 .junk)] H11)
 (fun (R12 : List V → Hp → Prop) =>
 C.aLen (l1.getD 0 .junk).nod.nod fun (v33 : V) =>
 C.aBin (Try.prog.underlying 3) .sub v33.nod (l1.getD 2 .junk).nod.nod fun (v34 : V) =>
 C.aSlc 1 (l1.getD 0 .junk).nod.nod (some v34.nod) none none fun (v35 : V) =>
 C.aLen v35.nod fun (v36 : V) =>
 R12 [(l1.getD 1 .junk), (l1.getD 3 .junk), (I 0), v35, v36, (I 0)] H5))))
 (fun (R3 : List V → Hp → Prop) =>
 C.aBS 1 2 (V.arr [] .full) [(0, a0.nod.nod), (1, a1.nod.nod)] fun (v37 : V) =>
 C.call 57 [v37.nod] H fun (v38 : V) (H39 : Hp) =>
 C.aBin (Try.prog.underlying 25) .neq v38.nod.nod (I 0) fun (v40 : V) =>
 aCond v40.nod (
 R [(I 0), v38.nod] H39) (
 R3 [a0, a1, a2, a3] H39))
theorem wf41 : (Nat.ble 4 Try.f41.ntmps && wfC an41 Try.f41.ntmps (Try.f41.body.getD .skip)) = true := by kernel_rfl
theorem tie41 (C : Cb) (a0 a1 a2 a3 : V) (H : Hp) (R : List V → Hp → Prop) : wpG Try.prog C an41 (Try.f41.body.getD .skip) (argF [a0, a1, a2, a3]) H (retG Try.prog C Try.f41 R) (fun _ _ _ => False) (retG Try.prog C Try.f41 R) = vc41 C a0 a1 a2 a3 H R := by kernel_rfl
theorem mk41 (a0 a1 a2 a3 : V) {H : Hp} {v : V} {H1 : Hp} (hd : v.Nd) (hn : H.length ≤ H1.length) (hb : H1 = H ∨ ∀ (b : Nat) (blk : Blk), H1[b]? = some blk → H[b]? = some blk ∨ BelB H1.length blk) (h : vc41 (real Try.prog) a0 a1 a2 a3 H (retF v H1)) : Ret Try.prog 41 [a0, a1, a2, a3] H v H1 :=
  ret_mk (an := an41) hm Try.call41 Try.func41 rfl wf41 hd hn hb (Eq.mpr (tie41 (real Try.prog) a0 a1 a2 a3 H (retF v H1)) h)

/- declaim/declaimref07.Wave -/
def an42 : An := { imm := [], jn := [], lp := [], loud := [], ord := [] }
def vc42 (C : Cb) (a0 : V) (H : Hp) (R : List V → Hp → Prop) : Prop :=
 C.aLen a0.nod.nod fun (v1 : V) =>
 C.aBin (Try.prog.underlying 3) .gtr v1.nod (I 100000) fun (v2 : V) =>
 aCond v2.nod (
 R [(I 4)] H) (
 C.call 23 [a0.nod.nod] H fun (v3 : V) (H4 : Hp) =>
 C.aUn .not v3.nod fun (v5 : V) =>
 aCond v5.nod (
 R [(I 2)] H4) (
 R [(I 0)] H4))
theorem wf42 : (Nat.ble 1 Try.f42.ntmps && wfC an42 Try.f42.ntmps (Try.f42.body.getD .skip)) = true := by kernel_rfl
theorem tie42 (C : Cb) (a0 : V) (H : Hp) (R : List V → Hp → Prop) : wpG Try.prog C an42 (Try.f42.body.getD .skip) (argF [a0]) H (retG Try.prog C Try.f42 R) (fun _ _ _ => False) (retG Try.prog C Try.f42 R) = vc42 C a0 H R := by kernel_rfl
theorem mk42 (a0 : V) {H : Hp} {v : V} {H1 : Hp} (hd : v.Nd) (hn : H.length ≤ H1.length) (hb : H1 = H ∨ ∀ (b : Nat) (blk : Blk), H1[b]? = some blk → H[b]? = some blk ∨ BelB H1.length blk) (h : vc42 (real Try.prog) a0 H (retF v H1)) : Ret Try.prog 42 [a0] H v H1 :=
  ret_mk (an := an42) hm Try.call42 Try.func42 rfl wf42 hd hn hb (Eq.mpr (tie42 (real Try.prog) a0 H (retF v H1)) h)
theorem mko42 (a0 : V) {H : Hp} {xs : List V} {H1 : Hp} (hn : H.length ≤ H1.length) (hb : H1 = H ∨ ∀ (b : Nat) (blk : Blk), H1[b]? = some blk → H[b]? = some blk ∨ BelB H1.length blk) (h : vc42 (real Try.prog) a0 H (retO xs H1)) : Ret Try.prog 42 [a0] H (.arr xs .own) H1 :=
  ret_mko (an := an42) (t := 2) hm Try.call42 Try.func42 rfl wf42 rfl hn hb (Eq.mpr (tie42 (real Try.prog) a0 H (retO xs H1)) h)

/- declaim/join.Smooth -/
def an43 : An := { imm := [2], jn := [(4, [1, 2, 4]), (5, [1, 2, 4, 24]), (8, [1, 2, 4, 7, 35, 36, 37]), (11, [1, 2, 4, 7, 9, 35, 36, 37]), (13, [1, 2, 4, 7, 9, 10, 35, 36, 37, 63, 64]), (16, [1, 2, 4, 7, 9, 10, 11, 12, 35, 36, 37, 63, 64]), (17, [1, 2, 4, 7, 9, 10, 11, 12, 35, 36, 37, 63, 64]), (20, [2, 4, 7])], lp := [(8, [1, 2, 4, 7, 35, 36, 37]), (13, [1, 2, 4, 7, 9, 10, 35, 36, 37, 63, 64])], loud := [], ord := [] }
def vc43 (C : Cb) (a0 a1 : V) (H : Hp) (R : List V → Hp → Prop) : Prop :=
 C.aBx true 2 a0.nod H fun (v1 : V) (H2 : Hp) =>
 C.aBx false 2 (V.agg [(V.arr [] .full), (V.arr [] .full)]) H2 fun (v3 : V) (H4 : Hp) =>
 Jn (fun (l5 : List V) (H6 : Hp) =>
 Jn (fun (l8 : List V) (H9 : Hp) =>
 aCond (l8.getD 3 .junk).nod (
 C.aBd [(V.arr [] .full), (V.arr [] .full)] [] fun (v11 : V) =>
 C.aSt 2 (l8.getD 2 .junk).nod v11 H9 fun (v12 : V) (H13 : Hp) =>
 C.aRes 2 true (l8.getD 2 .junk) H13 fun (v14 : V) =>
 R [v14, (I 2)] H13) (
 C.aFA 0 1 false (l8.getD 1 .junk).nod fun (v15 : V) =>
 C.aLd 1 false false v15.nod H9 fun (v16 : V) (H17 : Hp) =>
 C.call 61 [v16.nod] H17 fun (v18 : V) (H19 : Hp) =>
 Jn (fun (l20 : List V) (H21 : Hp) =>
 C.aFA 1 1 false (l20.getD 0 .junk).nod fun (v23 : V) =>
 C.aLd 1 false false v23.nod H21 fun (v24 : V) (H25 : Hp) =>
 C.call 61 [v24.nod] H25 fun (v26 : V) (H27 : Hp) =>
 C.aBd [(V.arr [] .full), (V.arr [] .full)] [(0, 1, (l20.getD 2 .junk).nod.nod), (1, 1, v26.nod.nod)] fun (v28 : V) =>
 C.aSt 2 (l20.getD 1 .junk).nod (own0 v28 (l20.getD 2 .junk).nod) H27 fun (v29 : V) (H30 : Hp) =>
 C.aRes 2 true (l20.getD 1 .junk) H30 fun (v31 : V) =>
 R [v31, (I 0)] H30)
 (fun (R22 : List V → Hp → Prop) =>
 Jn (fun (l32 : List V) (H33 : Hp) =>
 LoopA (fun (l35 : List V) (H36 : Hp) (K37 : List V → Hp → Prop) =>
 C.aBin (Try.prog.underlying 3) .lss (l35.getD 6 .junk).nod (l35.getD 5 .junk).nod fun (v38 : V) =>
 aCond v38.nod (
 C.aIx 1 (l35.getD 4 .junk).nod (l35.getD 6 .junk).nod fun (v39 : V) =>
 C.aLd 1 false false v39.nod H36 fun (v40 : V) (H41 : Hp) =>
 Jn (fun (l42 : List V) (H43 : Hp) =>
 C.aIx 1 (l42.getD 3 .junk).nod.nod (l42.getD 4 .junk).nod.nod fun (v45 : V) =>
 C.aLd 1 false false v45.nod H43 fun (v46 : V) (H47 : Hp) =>
 C.aBin (Try.prog.underlying 3) .sub (l42.getD 4 .junk).nod.nod (I 1) fun (v48 : V) =>
 C.aIx 1 (l42.getD 3 .junk).nod.nod v48.nod fun (v49 : V) =>
 C.aLd 1 false false v49.nod H47 fun (v50 : V) (H51 : Hp) =>
 C.aBin (Try.prog.underlying 3) .sub v46.nod v50.nod fun (v52 : V) =>
 Jn (fun (l53 : List V) (H54 : Hp) =>
 LoopA (fun (l56 : List V) (H57 : Hp) (K58 : List V → Hp → Prop) =>
 C.aBin (Try.prog.underlying 3) .lss (l56.getD 10 .junk).nod (l56.getD 9 .junk).nod fun (v59 : V) =>
 aCond v59.nod (
 Jn (fun (l60 : List V) (H61 : Hp) =>
 Jn (fun (l63 : List V) (H64 : Hp) =>
 C.aBin (Try.prog.underlying 3) .add (l63.getD 4 .junk).nod.nod (l63.getD 6 .junk).nod.nod fun (v66 : V) =>
 C.aBin (Try.prog.underlying 3) .add (l63.getD 4 .junk).nod.nod (l63.getD 6 .junk).nod.nod fun (v67 : V) =>
 C.aIx 1 (l63.getD 3 .junk).nod.nod v67.nod fun (v68 : V) =>
 C.aLd 1 false false v68.nod H64 fun (v69 : V) (H70 : Hp) =>
 C.aBin (Try.prog.underlying 3) .sub v69.nod (l63.getD 7 .junk).nod.nod fun (v71 : V) =>
 C.aMM true [(I (-32768)), v71.nod] fun (v72 : V) =>
 C.aMM false [(I 32767), v72.nod] fun (v73 : V) =>
 C.aIx 1 (l63.getD 3 .junk).nod.nod v66.nod fun (v74 : V) =>
 C.aSt 1 v74.nod v73 H70 fun (v75 : V) (H76 : Hp) =>
 C.aBin (Try.prog.underlying 3) .add (l63.getD 12 .junk).nod (I 1) fun (v77 : V) =>
 K58 [(l63.getD 0 .junk), (l63.getD 1 .junk), (l63.getD 2 .junk), (l63.getD 3 .junk), (l63.getD 4 .junk), (l63.getD 5 .junk), (l63.getD 8 .junk), (l63.getD 9 .junk), (l63.getD 10 .junk), (l63.getD 11 .junk), v77.nod] H76)
 (fun (R65 : List V → Hp → Prop) =>
 C.aBin (Try.prog.underlying 3) .sub (l60.getD 4 .junk).nod.nod (I 1) fun (v78 : V) =>
 C.aBin (Try.prog.underlying 3) .sub v78.nod (l60.getD 6 .junk).nod.nod fun (v79 : V) =>
 C.aBin (Try.prog.underlying 3) .sub (l60.getD 4 .junk).nod.nod (I 1) fun (v80 : V) =>
 C.aBin (Try.prog.underlying 3) .sub v80.nod (l60.getD 6 .junk).nod.nod fun (v81 : V) =>
 C.aIx 1 (l60.getD 3 .junk).nod.nod v81.nod fun (v82 : V) =>
 C.aLd 1 false false v82.nod H61 fun (v83 : V) (H84 : Hp) =>
 C.aBin (Try.prog.underlying 3) .add v83.nod (l60.getD 7 .junk).nod.nod fun (v85 : V) =>
 C.aMM true [(I (-32768)), v85.nod] fun (v86 : V) =>
 C.aMM false [(I 32767), v86.nod] fun (v87 : V) =>
 C.aIx 1 (l60.getD 3 .junk).nod.nod v79.nod fun (v88 : V) =>
 C.aSt 1 v88.nod v87 H84 fun (v89 : V) (H90 : Hp) =>
 R65 [(l60.getD 0 .junk), (l60.getD 1 .junk), (l60.getD 2 .junk), (l60.getD 3 .junk), (l60.getD 4 .junk), (l60.getD 5 .junk), (l60.getD 6 .junk), (l60.getD 7 .junk), (l60.getD 8 .junk), (l60.getD 9 .junk), (l60.getD 10 .junk), (l60.getD 11 .junk), (l60.getD 12 .junk)] H90))
 (fun (R62 : List V → Hp → Prop) =>
 C.aBin (Try.prog.underlying 3) .sub (l56.getD 0 .junk).nod.nod (l56.getD 10 .junk).nod.nod.nod fun (v91 : V) =>
 C.aBin (Try.prog.underlying 3) .mul (l56.getD 5 .junk).nod.nod v91.nod fun (v92 : V) =>
 C.aBin (Try.prog.underlying 3) .mul (I 2) (l56.getD 0 .junk).nod.nod fun (v93 : V) =>
 C.aBin (Try.prog.underlying 3) .add v93.nod (I 1) fun (v94 : V) =>
 C.call 71 [v92.nod, v94.nod] H57 fun (v95 : V) (H96 : Hp) =>
 R62 [(l56.getD 0 .junk), (l56.getD 1 .junk), (l56.getD 2 .junk), (l56.getD 3 .junk), (l56.getD 4 .junk), (l56.getD 5 .junk), (l56.getD 10 .junk).nod, v95, (l56.getD 6 .junk), (l56.getD 7 .junk), (l56.getD 8 .junk), (l56.getD 9 .junk), (l56.getD 10 .junk)] H96)) (
 C.aBin (Try.prog.underlying 3) .add (l56.getD 8 .junk).nod (I 1) fun (v97 : V) =>
 K37 [(l56.getD 0 .junk), (l56.getD 1 .junk), (l56.getD 2 .junk), (l56.getD 3 .junk), (l56.getD 6 .junk), (l56.getD 7 .junk), v97.nod] H57))
 [(l53.getD 0 .junk), (l53.getD 1 .junk), (l53.getD 2 .junk), (l53.getD 3 .junk), (l53.getD 4 .junk), (l53.getD 5 .junk), (l53.getD 6 .junk), (l53.getD 7 .junk), (l53.getD 8 .junk), (l53.getD 9 .junk), (l53.getD 10 .junk)] H54)
 (fun (R55 : List V → Hp → Prop) =>
 R55 [(l42.getD 0 .junk), (l42.getD 1 .junk), (l42.getD 2 .junk), (l42.getD 3 .junk), (l42.getD 4 .junk), v52, (l42.getD 5 .junk), (l42.getD 6 .junk), (l42.getD 7 .junk), (l42.getD 0 .junk).nod, (I 0)] H51))
 (fun (R44 : List V → Hp → Prop) =>
 C.aBin (Try.prog.underlying 3) .sub v40.nod.nod (l35.getD 0 .junk).nod.nod fun (v98 : V) =>
 C.aBin (Try.prog.underlying 3) .lss v98.nod (I 0) fun (v99 : V) =>
 Jv (fun (v100 : V) (H101 : Hp) =>
 aCond v100.nod (
 C.aBin (Try.prog.underlying 3) .add (l35.getD 6 .junk).nod (I 1) fun (v106 : V) =>
 K37 [(l35.getD 0 .junk), (l35.getD 1 .junk), (l35.getD 2 .junk), (l35.getD 3 .junk), (l35.getD 4 .junk), (l35.getD 5 .junk), v106.nod] H101) (
 R44 [(l35.getD 0 .junk), (l35.getD 1 .junk), (l35.getD 2 .junk), (l35.getD 3 .junk), v40, (l35.getD 4 .junk), (l35.getD 5 .junk), (l35.getD 6 .junk)] H101))
 (fun (R102 : V → Hp → Prop) =>
 aG v99.nod false (
 C.aBin (Try.prog.underlying 3) .add v40.nod.nod (l35.getD 0 .junk).nod.nod fun (v103 : V) =>
 C.aLen (l35.getD 3 .junk).nod.nod fun (v104 : V) =>
 C.aBin (Try.prog.underlying 3) .gtr v103.nod v104.nod fun (v105 : V) =>
 R102 v105.nod H41) (
 R102 (B true) H41)))) (
 R22 [(l35.getD 1 .junk), (l35.getD 2 .junk), (l35.getD 3 .junk)] H36))
 [(l32.getD 0 .junk), (l32.getD 1 .junk), (l32.getD 2 .junk), (l32.getD 3 .junk), (l32.getD 4 .junk), (l32.getD 5 .junk), (l32.getD 6 .junk)] H33)
 (fun (R34 : List V → Hp → Prop) =>
 C.aFA 1 1 false (l8.getD 1 .junk).nod fun (v107 : V) =>
 C.aLd 1 false false v107.nod H19 fun (v108 : V) (H109 : Hp) =>
 C.aFA 1 1 false (l8.getD 1 .junk).nod fun (v110 : V) =>
 C.aLd 1 false false v110.nod H109 fun (v111 : V) (H112 : Hp) =>
 C.aLen v111.nod fun (v113 : V) =>
 C.aBin (Try.prog.underlying 3) .sub v113.nod (I 1) fun (v114 : V) =>
 C.aSlc 1 v108.nod (some (I 1)) (some v114.nod) none fun (v115 : V) =>
 C.aLen v115.nod fun (v116 : V) =>
 R34 [(l8.getD 0 .junk), (l8.getD 1 .junk), (l8.getD 2 .junk), v18, v115, v116, (I 0)] H112))))
 (fun (R10 : List V → Hp → Prop) =>
 C.aBin (Try.prog.underlying 3) .lss (l5.getD 0 .junk).nod.nod (I 1) fun (v117 : V) =>
 Jv (fun (v118 : V) (H119 : Hp) =>
 R10 [(l5.getD 0 .junk), (l5.getD 1 .junk), (l5.getD 2 .junk), v118] H119)
 (fun (R120 : V → Hp → Prop) =>
 aG v117.nod false (
 C.aBin (Try.prog.underlying 3) .gtr (l5.getD 0 .junk).nod.nod (I 1000) fun (v121 : V) =>
 R120 v121.nod H6) (
 R120 (B true) H6))))
 (fun (R7 : List V → Hp → Prop) =>
 C.aLd 2 true false v1.nod H4 fun (v122 : V) (H123 : Hp) =>
 C.call 69 [v122.nod] H123 fun (v124 : V) (H125 : Hp) =>
 C.aBin (Try.prog.underlying 25) .neq v124.nod.nod (I 0) fun (v126 : V) =>
 aCond v126.nod (
 C.aBd [(V.arr [] .full), (V.arr [] .full)] [] fun (v127 : V) =>
 C.aSt 2 v3.nod v127 H125 fun (v128 : V) (H129 : Hp) =>
 C.aRes 2 true v3 H129 fun (v130 : V) =>
 R [v130, v124.nod] H129) (
 R7 [a1, v1, v3] H125))
theorem wf43 : (Nat.ble 2 Try.f43.ntmps && wfC an43 Try.f43.ntmps (Try.f43.body.getD .skip)) = true := by kernel_rfl
theorem tie43 (C : Cb) (a0 a1 : V) (H : Hp) (R : List V → Hp → Prop) : wpG Try.prog C an43 (Try.f43.body.getD .skip) (argF [a0, a1]) H (retG Try.prog C Try.f43 R) (fun _ _ _ => False) (retG Try.prog C Try.f43 R) = vc43 C a0 a1 H R := by kernel_rfl
theorem mk43 (a0 a1 : V) {H : Hp} {v : V} {H1 : Hp} (hd : v.Nd) (hn : H.length ≤ H1.length) (hb : H1 = H ∨ ∀ (b : Nat) (blk : Blk), H1[b]? = some blk → H[b]? = some blk ∨ BelB H1.length blk) (h : vc43 (real Try.prog) a0 a1 H (retF v H1)) : Ret Try.prog 43 [a0, a1] H v H1 :=
  ret_mk (an := an43) hm Try.call43 Try.func43 rfl wf43 hd hn hb (Eq.mpr (tie43 (real Try.prog) a0 a1 H (retF v H1)) h)

/- declaim/declaimref07.Smooth -/
def an44 : An := { imm := [2, 14], jn := [(2, [1, 2, 4, 5]), (5, [1, 2, 4, 5, 6, 7]), (7, [1, 2, 4, 5, 6, 7, 8]), (8, [1, 2, 4, 5, 6, 7, 8]), (10, [1, 2, 4, 5, 6, 7, 8, 9, 10]), (11, [1, 2, 4, 5, 6, 7, 8, 9, 10]), (13, [1, 2, 4, 5, 6, 7, 8, 9, 10, 11]), (14, [1, 2, 4, 5, 6, 7, 8, 9, 10, 11])], lp := [(4, [1, 2, 4, 5, 6, 7]), (10, [1, 2, 4, 5, 6, 7, 8, 9, 10])], loud := [], ord := [(1, [(2, 4), (2, 7), (4, 7)], [[0, 1, 3, 7, 4, 2, 5, 6, 8], [0, 1, 3, 7, 2, 4, 5, 6, 8], [0, 1, 2, 3, 7, 4, 5, 6, 8], [0, 1, 3, 4, 7, 2, 5, 6, 8], [0, 1, 3, 4, 2, 5, 6, 7, 8], [0, 1, 2, 3, 4, 5, 6, 7, 8]])] }
def vc44 (C : Cb) (a0 a1 : V) (H : Hp) (R : List V → Hp → Prop) : Prop :=
 C.aBx true 2 a0.nod H fun (v1 : V) (H2 : Hp) =>
 C.aBx false 2 (V.agg [(V.arr [] .full), (V.arr [] .full)]) H2 fun (v3 : V) (H4 : Hp) =>
 Jn (fun (l5 : List V) (H6 : Hp) =>
 C.aFA 0 1 false (l5.getD 3 .junk).nod fun (v8 : V) =>
 C.aLd 1 false false v8.nod H6 fun (v9 : V) (H10 : Hp) =>
 LoopA (fun (l11 : List V) (H12 : Hp) (K13 : List V → Hp → Prop) =>
 C.aBin (Try.prog.underlying 3) .add (l11.getD 5 .junk).nod.nod (I 1) fun (v14 : V) =>
 C.aFA 1 1 false (l11.getD 1 .junk).nod fun (v15 : V) =>
 C.aLd 1 false false v15.nod H12 fun (v16 : V) (H17 : Hp) =>
 C.aLen v16.nod fun (v18 : V) =>
 C.aBin (Try.prog.underlying 3) .lss v14.nod v18.nod fun (v19 : V) =>
 aCond v19.nod (
 Jn (fun (l20 : List V) (H21 : Hp) =>
 C.aBin (Try.prog.underlying 3) .add (l20.getD 5 .junk).nod.nod (I 1) fun (v23 : V) =>
 K13 [(l20.getD 0 .junk), (l20.getD 1 .junk), (l20.getD 2 .junk), (l20.getD 3 .junk), (l20.getD 4 .junk), v23] H21)
 (fun (R22 : List V → Hp → Prop) =>
 Jn (fun (l24 : List V) (H25 : Hp) =>
 Jn (fun (l27 : List V) (H28 : Hp) =>
 C.aIx 1 (l27.getD 4 .junk).nod.nod (l27.getD 6 .junk).nod.nod fun (v30 : V) =>
 C.aLd 1 false false v30.nod H28 fun (v31 : V) (H32 : Hp) =>
 C.aBin (Try.prog.underlying 3) .sub (l27.getD 6 .junk).nod.nod (I 1) fun (v33 : V) =>
 C.aIx 1 (l27.getD 4 .junk).nod.nod v33.nod fun (v34 : V) =>
 C.aLd 1 false false v34.nod H32 fun (v35 : V) (H36 : Hp) =>
 C.aBin (Try.prog.underlying 3) .sub v31.nod v35.nod fun (v37 : V) =>
 Jn (fun (l38 : List V) (H39 : Hp) =>
 LoopA (fun (l41 : List V) (H42 : Hp) (K43 : List V → Hp → Prop) =>
 C.aBin (Try.prog.underlying 3) .lss (l41.getD 8 .junk).nod.nod (l41.getD 0 .junk).nod.nod fun (v44 : V) =>
 aCond v44.nod (
 Jn (fun (l45 : List V) (H46 : Hp) =>
 C.aBin (Try.prog.underlying 3) .add (l45.getD 8 .junk).nod.nod (I 1) fun (v48 : V) =>
 K43 [(l45.getD 0 .junk), (l45.getD 1 .junk), (l45.getD 2 .junk), (l45.getD 3 .junk), (l45.getD 4 .junk), (l45.getD 5 .junk), (l45.getD 6 .junk), (l45.getD 7 .junk), v48] H46)
 (fun (R47 : List V → Hp → Prop) =>
 Jn (fun (l49 : List V) (H50 : Hp) =>
 Jn (fun (l52 : List V) (H53 : Hp) =>
 C.aBin (Try.prog.underlying 3) .add (l52.getD 6 .junk).nod.nod (l52.getD 8 .junk).nod.nod fun (v55 : V) =>
 C.aBin (Try.prog.underlying 3) .add (l52.getD 6 .junk).nod.nod (l52.getD 8 .junk).nod.nod fun (v56 : V) =>
 C.aIx 1 (l52.getD 4 .junk).nod.nod v56.nod fun (v57 : V) =>
 C.aLd 1 false false v57.nod H53 fun (v58 : V) (H59 : Hp) =>
 C.aBin (Try.prog.underlying 3) .sub v58.nod (l52.getD 9 .junk).nod.nod fun (v60 : V) =>
 C.call 72 [v60.nod] H59 fun (v61 : V) (H62 : Hp) =>
 C.aIx 1 (l52.getD 4 .junk).nod.nod v55.nod fun (v63 : V) =>
 C.aSt 1 v63.nod v61 H62 fun (v64 : V) (H65 : Hp) =>
 R47 [(l52.getD 0 .junk), (l52.getD 1 .junk), (l52.getD 2 .junk), (l52.getD 3 .junk), (l52.getD 4 .junk), (l52.getD 5 .junk), (l52.getD 6 .junk), (l52.getD 7 .junk), (l52.getD 8 .junk)] H65)
 (fun (R54 : List V → Hp → Prop) =>
 C.aBin (Try.prog.underlying 3) .sub (l49.getD 6 .junk).nod.nod (I 1) fun (v66 : V) =>
 C.aBin (Try.prog.underlying 3) .sub v66.nod (l49.getD 8 .junk).nod.nod fun (v67 : V) =>
 C.aBin (Try.prog.underlying 3) .sub (l49.getD 6 .junk).nod.nod (I 1) fun (v68 : V) =>
 C.aBin (Try.prog.underlying 3) .sub v68.nod (l49.getD 8 .junk).nod.nod fun (v69 : V) =>
 C.aIx 1 (l49.getD 4 .junk).nod.nod v69.nod fun (v70 : V) =>
 C.aLd 1 false false v70.nod H50 fun (v71 : V) (H72 : Hp) =>
 C.aBin (Try.prog.underlying 3) .add v71.nod (l49.getD 9 .junk).nod.nod fun (v73 : V) =>
 C.call 72 [v73.nod] H72 fun (v74 : V) (H75 : Hp) =>
 C.aIx 1 (l49.getD 4 .junk).nod.nod v67.nod fun (v76 : V) =>
 C.aSt 1 v76.nod v74 H75 fun (v77 : V) (H78 : Hp) =>
 R54 [(l49.getD 0 .junk), (l49.getD 1 .junk), (l49.getD 2 .junk), (l49.getD 3 .junk), (l49.getD 4 .junk), (l49.getD 5 .junk), (l49.getD 6 .junk), (l49.getD 7 .junk), (l49.getD 8 .junk), (l49.getD 9 .junk)] H78))
 (fun (R51 : List V → Hp → Prop) =>
 C.aBin (Try.prog.underlying 3) .sub (l41.getD 0 .junk).nod.nod (l41.getD 8 .junk).nod.nod fun (v79 : V) =>
 C.aBin (Try.prog.underlying 3) .mul (l41.getD 7 .junk).nod.nod v79.nod fun (v80 : V) =>
 C.aBin (Try.prog.underlying 3) .mul (I 2) (l41.getD 0 .junk).nod.nod fun (v81 : V) =>
 C.aBin (Try.prog.underlying 3) .add v81.nod (I 1) fun (v82 : V) =>
 C.call 59 [v80.nod, v82.nod] H42 fun (v83 : V) (H84 : Hp) =>
 R51 [(l41.getD 0 .junk), (l41.getD 1 .junk), (l41.getD 2 .junk), (l41.getD 3 .junk), (l41.getD 4 .junk), (l41.getD 5 .junk), (l41.getD 6 .junk), (l41.getD 7 .junk), (l41.getD 8 .junk), v83] H84))) (
 R22 [(l41.getD 0 .junk), (l41.getD 1 .junk), (l41.getD 2 .junk), (l41.getD 3 .junk), (l41.getD 4 .junk), (l41.getD 5 .junk)] H42))
 [(l38.getD 0 .junk), (l38.getD 1 .junk), (l38.getD 2 .junk), (l38.getD 3 .junk), (l38.getD 4 .junk), (l38.getD 5 .junk), (l38.getD 6 .junk), (l38.getD 7 .junk), (l38.getD 8 .junk)] H39)
 (fun (R40 : List V → Hp → Prop) =>
 R40 [(l27.getD 0 .junk), (l27.getD 1 .junk), (l27.getD 2 .junk), (l27.getD 3 .junk), (l27.getD 4 .junk), (l27.getD 5 .junk), (l27.getD 6 .junk), v37, (I 0)] H36))
 (fun (R29 : List V → Hp → Prop) =>
 C.aBin (Try.prog.underlying 3) .sub (l24.getD 6 .junk).nod.nod (l24.getD 0 .junk).nod.nod fun (v85 : V) =>
 C.aBin (Try.prog.underlying 3) .lss v85.nod (I 0) fun (v86 : V) =>
 Jv (fun (v87 : V) (H88 : Hp) =>
 aCond v87.nod (
 R22 [(l24.getD 0 .junk), (l24.getD 1 .junk), (l24.getD 2 .junk), (l24.getD 3 .junk), (l24.getD 4 .junk), (l24.getD 5 .junk)] H88) (
 R29 [(l24.getD 0 .junk), (l24.getD 1 .junk), (l24.getD 2 .junk), (l24.getD 3 .junk), (l24.getD 4 .junk), (l24.getD 5 .junk), (l24.getD 6 .junk)] H88))
 (fun (R89 : V → Hp → Prop) =>
 aG v86.nod false (
 C.aBin (Try.prog.underlying 3) .add (l24.getD 6 .junk).nod.nod (l24.getD 0 .junk).nod.nod fun (v90 : V) =>
 C.aLen (l24.getD 4 .junk).nod.nod fun (v91 : V) =>
 C.aBin (Try.prog.underlying 3) .gtr v90.nod v91.nod fun (v92 : V) =>
 R89 v92.nod H25) (
 R89 (B true) H25))))
 (fun (R26 : List V → Hp → Prop) =>
 C.aFA 1 1 false (l11.getD 1 .junk).nod fun (v93 : V) =>
 C.aLd 1 false false v93.nod H17 fun (v94 : V) (H95 : Hp) =>
 C.aIx 1 v94.nod (l11.getD 5 .junk).nod.nod fun (v96 : V) =>
 C.aLd 1 false false v96.nod H95 fun (v97 : V) (H98 : Hp) =>
 R26 [(l11.getD 0 .junk), (l11.getD 1 .junk), (l11.getD 2 .junk), (l11.getD 3 .junk), (l11.getD 4 .junk), (l11.getD 5 .junk), v97] H98))) (
 C.aLd 2 true false (l11.getD 3 .junk).nod H17 fun (v99 : V) (H100 : Hp) =>
 C.aSt 2 (l11.getD 2 .junk).nod v99 H100 fun (v101 : V) (H102 : Hp) =>
 C.aRes 2 true (l11.getD 2 .junk) H102 fun (v103 : V) =>
 R [v103] H102))
 [(l5.getD 0 .junk), (l5.getD 1 .junk), (l5.getD 2 .junk), (l5.getD 3 .junk), v9, (I 1)] H10)
 (fun (R7 : List V → Hp → Prop) =>
 (C.aFA 0 1 false v1.nod fun (v104 : V) =>
 C.aLd 1 false false v104.nod H4 fun (v105 : V) (H106 : Hp) =>
 C.aFA 1 1 false v1.nod fun (v107 : V) =>
 C.aBx false 2 (V.agg [(V.arr [] .full), (V.arr [] .full)]) H106 fun (v108 : V) (H109 : Hp) =>
 C.aLd 1 false false v107.nod H109 fun (v110 : V) (H111 : Hp) =>
 C.aAppB 1 8 (V.arr [] .full) v105.nod H111 fun (v112 : V) (H113 : Hp) =>
 C.aApp 1 8 (V.arr [] .full) v110.nod fun (v114 : V) =>
 C.aBd [(V.arr [] .full), (V.arr [] .full)] [(0, 1, v112.nod), (1, 1, v114.nod.nod)] fun (v115 : V) =>
 C.aSt 2 v108.nod (own0 v115 v112) H113 fun (v116 : V) (H117 : Hp) =>
 R7 [a1, v1, v3, v108] H117) ∧ (C.aFA 0 1 false v1.nod fun (v118 : V) =>
 C.aLd 1 false false v118.nod H4 fun (v119 : V) (H120 : Hp) =>
 C.aFA 1 1 false v1.nod fun (v121 : V) =>
 C.aBx false 2 (V.agg [(V.arr [] .full), (V.arr [] .full)]) H120 fun (v122 : V) (H123 : Hp) =>
 C.aAppB 1 8 (V.arr [] .full) v119.nod H123 fun (v124 : V) (H125 : Hp) =>
 C.aLd 1 false false v121.nod H125 fun (v126 : V) (H127 : Hp) =>
 C.aApp 1 8 (V.arr [] .full) v126.nod fun (v128 : V) =>
 C.aBd [(V.arr [] .full), (V.arr [] .full)] [(0, 1, v124.nod), (1, 1, v128.nod.nod)] fun (v129 : V) =>
 C.aSt 2 v122.nod (own0 v129 v124) H127 fun (v130 : V) (H131 : Hp) =>
 R7 [a1, v1, v3, v122] H131) ∧ (C.aFA 0 1 false v1.nod fun (v132 : V) =>
 C.aLd 1 false false v132.nod H4 fun (v133 : V) (H134 : Hp) =>
 C.aAppB 1 8 (V.arr [] .full) v133.nod H134 fun (v135 : V) (H136 : Hp) =>
 C.aFA 1 1 false v1.nod fun (v137 : V) =>
 C.aBx false 2 (V.agg [(V.arr [] .full), (V.arr [] .full)]) H136 fun (v138 : V) (H139 : Hp) =>
 C.aLd 1 false false v137.nod H139 fun (v140 : V) (H141 : Hp) =>
 C.aApp 1 8 (V.arr [] .full) v140.nod fun (v142 : V) =>
 C.aBd [(V.arr [] .full), (V.arr [] .full)] [(0, 1, v135.nod), (1, 1, v142.nod.nod)] fun (v143 : V) =>
 C.aSt 2 v138.nod (own0 v143 v135) H141 fun (v144 : V) (H145 : Hp) =>
 R7 [a1, v1, v3, v138] H145) ∧ (C.aFA 0 1 false v1.nod fun (v146 : V) =>
 C.aLd 1 false false v146.nod H4 fun (v147 : V) (H148 : Hp) =>
 C.aFA 1 1 false v1.nod fun (v149 : V) =>
 C.aLd 1 false false v149.nod H148 fun (v150 : V) (H151 : Hp) =>
 C.aBx false 2 (V.agg [(V.arr [] .full), (V.arr [] .full)]) H151 fun (v152 : V) (H153 : Hp) =>
 C.aAppB 1 8 (V.arr [] .full) v147.nod H153 fun (v154 : V) (H155 : Hp) =>
 C.aApp 1 8 (V.arr [] .full) v150.nod fun (v156 : V) =>
 C.aBd [(V.arr [] .full), (V.arr [] .full)] [(0, 1, v154.nod), (1, 1, v156.nod.nod)] fun (v157 : V) =>
 C.aSt 2 v152.nod (own0 v157 v154) H155 fun (v158 : V) (H159 : Hp) =>
 R7 [a1, v1, v3, v152] H159) ∧ (C.aFA 0 1 false v1.nod fun (v160 : V) =>
 C.aLd 1 false false v160.nod H4 fun (v161 : V) (H162 : Hp) =>
 C.aFA 1 1 false v1.nod fun (v163 : V) =>
 C.aLd 1 false false v163.nod H162 fun (v164 : V) (H165 : Hp) =>
 C.aAppB 1 8 (V.arr [] .full) v161.nod H165 fun (v166 : V) (H167 : Hp) =>
 C.aApp 1 8 (V.arr [] .full) v164.nod fun (v168 : V) =>
 C.aBd [(V.arr [] .full), (V.arr [] .full)] [(0, 1, v166.nod), (1, 1, v168.nod.nod)] fun (v169 : V) =>
 C.aBx false 2 (V.agg [(V.arr [] .full), (V.arr [] .full)]) H167 fun (v170 : V) (H171 : Hp) =>
 C.aSt 2 v170.nod (own0 v169 v166) H171 fun (v172 : V) (H173 : Hp) =>
 R7 [a1, v1, v3, v170] H173) ∧ (C.aFA 0 1 false v1.nod fun (v174 : V) =>
 C.aLd 1 false false v174.nod H4 fun (v175 : V) (H176 : Hp) =>
 C.aAppB 1 8 (V.arr [] .full) v175.nod H176 fun (v177 : V) (H178 : Hp) =>
 C.aFA 1 1 false v1.nod fun (v179 : V) =>
 C.aLd 1 false false v179.nod H178 fun (v180 : V) (H181 : Hp) =>
 C.aApp 1 8 (V.arr [] .full) v180.nod fun (v182 : V) =>
 C.aBd [(V.arr [] .full), (V.arr [] .full)] [(0, 1, v177.nod), (1, 1, v182.nod.nod)] fun (v183 : V) =>
 C.aBx false 2 (V.agg [(V.arr [] .full), (V.arr [] .full)]) H181 fun (v184 : V) (H185 : Hp) =>
 C.aSt 2 v184.nod (own0 v183 v177) H185 fun (v186 : V) (H187 : Hp) =>
 R7 [a1, v1, v3, v184] H187))
theorem wf44 : (Nat.ble 2 Try.f44.ntmps && wfC an44 Try.f44.ntmps (Try.f44.body.getD .skip)) = true := by kernel_rfl
theorem tie44 (C : Cb) (a0 a1 : V) (H : Hp) (R : List V → Hp → Prop) : wpG Try.prog C an44 (Try.f44.body.getD .skip) (argF [a0, a1]) H (retG Try.prog C Try.f44 R) (fun _ _ _ => False) (retG Try.prog C Try.f44 R) = vc44 C a0 a1 H R := by kernel_rfl
theorem mk44 (a0 a1 : V) {H : Hp} {v : V} {H1 : Hp} (hd : v.Nd) (hn : H.length ≤ H1.length) (hb : H1 = H ∨ ∀ (b : Nat) (blk : Blk), H1[b]? = some blk → H[b]? = some blk ∨ BelB H1.length blk) (h : vc44 (real Try.prog) a0 a1 H (retF v H1)) : Ret Try.prog 44 [a0, a1] H v H1 :=
  ret_mk (an := an44) hm Try.call44 Try.func44 rfl wf44 hd hn hb (Eq.mpr (tie44 (real Try.prog) a0 a1 H (retF v H1)) h)

end Go.Proofs.Ytehjfjdknllmhaa
