import Derived.Test.YtehjfjdknllmhaaAb23
import Derived.Test.YtehjfjdknllmhaaProg
import Derived.Test.YtehjfjdknllmhaaJV1
set_option linter.unusedVariables false
set_option maxRecDepth 20000
set_option maxHeartbeats 4000000
namespace Go.Proofs.Ytehjfjdknllmhaa
open Go Go.Ab Go.Proofs
/- declaim/declaimref07.Exists -/
def an45 : An := { imm := [], jn := [], lp := [], loud := [], ord := [] }
def vc45 (C : Cb) (a0 a1 a2 a3 : V) (H : Hp) (R : List V → Hp → Prop) : Prop :=
 C.aBin (Try.prog.underlying 3) .geq a2.nod.nod (I 1) fun (v1 : V) =>
 Jv (fun (v2 : V) (H3 : Hp) =>
 Jv (fun (v7 : V) (H8 : Hp) =>
 Jv (fun (v12 : V) (H13 : Hp) =>
 Jv (fun (v16 : V) (H17 : Hp) =>
 R [v16] H17)
 (fun (R18 : V → Hp → Prop) =>
 aG v12.nod true (
 C.aLen a1.nod.nod fun (v19 : V) =>
 C.aBin (Try.prog.underlying 3) .sub v19.nod a2.nod.nod fun (v20 : V) =>
 C.aBin (Try.prog.underlying 3) .leq a3.nod.nod v20.nod fun (v21 : V) =>
 R18 v21.nod H13) (
 R18 (B false) H13)))
 (fun (R14 : V → Hp → Prop) =>
 aG v7.nod true (
 C.aBin (Try.prog.underlying 3) .geq a3.nod.nod (I 0) fun (v15 : V) =>
 R14 v15.nod H8) (
 R14 (B false) H8)))
 (fun (R9 : V → Hp → Prop) =>
 aG v2.nod true (
 C.aLen a1.nod.nod fun (v10 : V) =>
 C.aBin (Try.prog.underlying 3) .leq a2.nod.nod v10.nod fun (v11 : V) =>
 R9 v11.nod H3) (
 R9 (B false) H3)))
 (fun (R4 : V → Hp → Prop) =>
 aG v1.nod true (
 C.aLen a0.nod.nod fun (v5 : V) =>
 C.aBin (Try.prog.underlying 3) .leq a2.nod.nod v5.nod fun (v6 : V) =>
 R4 v6.nod H) (
 R4 (B false) H))
theorem wf45 : (Nat.ble 4 Try.f45.ntmps && wfC an45 Try.f45.ntmps (Try.f45.body.getD .skip)) = true := by kernel_rfl
theorem tie45 (C : Cb) (a0 a1 a2 a3 : V) (H : Hp) (R : List V → Hp → Prop) : wpG Try.prog C an45 (Try.f45.body.getD .skip) (argF [a0, a1, a2, a3]) H (retG Try.prog C Try.f45 R) (fun _ _ _ => False) (retG Try.prog C Try.f45 R) = vc45 C a0 a1 a2 a3 H R := by kernel_rfl
theorem mk45 (a0 a1 a2 a3 : V) {H : Hp} {v : V} {H1 : Hp} (hd : v.Nd) (hn : H.length ≤ H1.length) (hb : H1 = H ∨ ∀ (b : Nat) (blk : Blk), H1[b]? = some blk → H[b]? = some blk ∨ BelB H1.length blk) (h : vc45 (real Try.prog) a0 a1 a2 a3 H (retF v H1)) : Ret Try.prog 45 [a0, a1, a2, a3] H v H1 :=
  ret_mk (an := an45) hm Try.call45 Try.func45 rfl wf45 hd hn hb (Eq.mpr (tie45 (real Try.prog) a0 a1 a2 a3 H (retF v H1)) h)
theorem mko45 (a0 a1 a2 a3 : V) {H : Hp} {xs : List V} {H1 : Hp} (hn : H.length ≤ H1.length) (hb : H1 = H ∨ ∀ (b : Nat) (blk : Blk), H1[b]? = some blk → H[b]? = some blk ∨ BelB H1.length blk) (h : vc45 (real Try.prog) a0 a1 a2 a3 H (retO xs H1)) : Ret Try.prog 45 [a0, a1, a2, a3] H (.arr xs .own) H1 :=
  ret_mko (an := an45) (t := 8) hm Try.call45 Try.func45 rfl wf45 rfl hn hb (Eq.mpr (tie45 (real Try.prog) a0 a1 a2 a3 H (retO xs H1)) h)

/- declaim/join.Join -/
def an46 : An := { imm := [], jn := [(4, [0, 1, 2, 3]), (7, [11, 12])], lp := [], loud := [], ord := [] }
def vc46 (C : Cb) (a0 a1 a2 a3 : V) (H : Hp) (R : List V → Hp → Prop) : Prop :=
 Jn (fun (l1 : List V) (H2 : Hp) =>
 C.call 70 [(l1.getD 0 .junk).nod.nod, (l1.getD 1 .junk).nod.nod, (l1.getD 2 .junk).nod.nod, (l1.getD 3 .junk).nod.nod] H2 fun (v4 : V) (H5 : Hp) =>
 C.aUn .not v4.nod fun (v6 : V) =>
 aCond v6.nod (
 R [(V.arr [] .full), (I 2)] H5) (
 Jn (fun (l7 : List V) (H8 : Hp) =>
 C.aUn .not (l7.getD 1 .junk).nod.nod fun (v10 : V) =>
 aCond v10.nod (
 R [(V.arr [] .full), (I 4)] H8) (
 R [(l7.getD 0 .junk).nod, (I 0)] H8))
 (fun (R9 : List V → Hp → Prop) =>
 C.call 63 [(l1.getD 0 .junk).nod.nod, (l1.getD 1 .junk).nod.nod, (l1.getD 2 .junk).nod.nod, (l1.getD 3 .junk).nod.nod] H5 fun (v11 : V) (H12 : Hp) =>
 C.aExt 0 v11.nod.nod fun (v13 : V) =>
 C.aExt 1 v11.nod.nod fun (v14 : V) =>
 R9 [v13, v14] H12)))
 (fun (R3 : List V → Hp → Prop) =>
 C.aBS 1 2 (V.arr [] .full) [(0, a0.nod.nod), (1, a1.nod.nod)] fun (v15 : V) =>
 C.call 57 [v15.nod] H fun (v16 : V) (H17 : Hp) =>
 C.aBin (Try.prog.underlying 25) .neq v16.nod.nod (I 0) fun (v18 : V) =>
 aCond v18.nod (
 R [(V.arr [] .full), v16.nod] H17) (
 R3 [a0, a1, a2, a3] H17))
theorem wf46 : (Nat.ble 4 Try.f46.ntmps && wfC an46 Try.f46.ntmps (Try.f46.body.getD .skip)) = true := by kernel_rfl
theorem tie46 (C : Cb) (a0 a1 a2 a3 : V) (H : Hp) (R : List V → Hp → Prop) : wpG Try.prog C an46 (Try.f46.body.getD .skip) (argF [a0, a1, a2, a3]) H (retG Try.prog C Try.f46 R) (fun _ _ _ => False) (retG Try.prog C Try.f46 R) = vc46 C a0 a1 a2 a3 H R := by kernel_rfl
theorem mk46 (a0 a1 a2 a3 : V) {H : Hp} {v : V} {H1 : Hp} (hd : v.Nd) (hn : H.length ≤ H1.length) (hb : H1 = H ∨ ∀ (b : Nat) (blk : Blk), H1[b]? = some blk → H[b]? = some blk ∨ BelB H1.length blk) (h : vc46 (real Try.prog) a0 a1 a2 a3 H (retF v H1)) : Ret Try.prog 46 [a0, a1, a2, a3] H v H1 :=
  ret_mk (an := an46) hm Try.call46 Try.func46 rfl wf46 hd hn hb (Eq.mpr (tie46 (real Try.prog) a0 a1 a2 a3 H (retF v H1)) h)

/- declaim/join.Step -/
def an47 : An := { imm := [], jn := [(6, [0, 5, 6]), (7, [0, 5, 6])], lp := [(6, [0, 5, 6])], loud := [], ord := [] }
def vc47 (C : Cb) (a0 : V) (H : Hp) (R : List V → Hp → Prop) : Prop :=
 C.call 73 [a0.nod.nod] H fun (v1 : V) (H2 : Hp) =>
 C.aBin (Try.prog.underlying 25) .neq v1.nod.nod (I 0) fun (v3 : V) =>
 aCond v3.nod (
 R [(I 0), v1.nod] H2) (
 Jn (fun (l4 : List V) (H5 : Hp) =>
 LoopA (fun (l7 : List V) (H8 : Hp) (K9 : List V → Hp → Prop) =>
 C.aLen (l7.getD 0 .junk).nod.nod fun (v10 : V) =>
 C.aBin (Try.prog.underlying 3) .lss (l7.getD 2 .junk).nod.nod v10.nod fun (v11 : V) =>
 aCond v11.nod (
 Jn (fun (l12 : List V) (H13 : Hp) =>
 C.aBin (Try.prog.underlying 3) .add (l12.getD 2 .junk).nod.nod (I 1) fun (v15 : V) =>
 K9 [(l12.getD 0 .junk), (l12.getD 1 .junk), v15] H13)
 (fun (R14 : List V → Hp → Prop) =>
 C.aIx 1 (l7.getD 0 .junk).nod.nod (l7.getD 2 .junk).nod.nod fun (v16 : V) =>
 C.aLd 1 false false v16.nod H8 fun (v17 : V) (H18 : Hp) =>
 C.aBin (Try.prog.underlying 3) .sub (l7.getD 2 .junk).nod.nod (I 1) fun (v19 : V) =>
 C.aIx 1 (l7.getD 0 .junk).nod.nod v19.nod fun (v20 : V) =>
 C.aLd 1 false false v20.nod H18 fun (v21 : V) (H22 : Hp) =>
 C.aBin (Try.prog.underlying 3) .sub v17.nod v21.nod fun (v23 : V) =>
 C.aBin (Try.prog.underlying 3) .sub (l7.getD 2 .junk).nod.nod (I 1) fun (v24 : V) =>
 C.aIx 1 (l7.getD 0 .junk).nod.nod v24.nod fun (v25 : V) =>
 C.aLd 1 false false v25.nod H22 fun (v26 : V) (H27 : Hp) =>
 C.aIx 1 (l7.getD 0 .junk).nod.nod (l7.getD 2 .junk).nod.nod fun (v28 : V) =>
 C.aLd 1 false false v28.nod H27 fun (v29 : V) (H30 : Hp) =>
 C.aBin (Try.prog.underlying 3) .sub v26.nod v29.nod fun (v31 : V) =>
 C.aMM true [(l7.getD 1 .junk).nod.nod, v23.nod, v31.nod] fun (v32 : V) =>
 R14 [(l7.getD 0 .junk), v32, (l7.getD 2 .junk)] H30)) (
 R [(l7.getD 1 .junk).nod, (I 0)] H8))
 [(l4.getD 0 .junk), (l4.getD 1 .junk), (l4.getD 2 .junk)] H5)
 (fun (R6 : List V → Hp → Prop) =>
 R6 [a0, (I 0), (I 1)] H2))
theorem wf47 : (Nat.ble 1 Try.f47.ntmps && wfC an47 Try.f47.ntmps (Try.f47.body.getD .skip)) = true := by kernel_rfl
theorem tie47 (C : Cb) (a0 : V) (H : Hp) (R : List V → Hp → Prop) : wpG Try.prog C an47 (Try.f47.body.getD .skip) (argF [a0]) H (retG Try.prog C Try.f47 R) (fun _ _ _ => False) (retG Try.prog C Try.f47 R) = vc47 C a0 H R := by kernel_rfl
theorem mk47 (a0 : V) {H : Hp} {v : V} {H1 : Hp} (hd : v.Nd) (hn : H.length ≤ H1.length) (hb : H1 = H ∨ ∀ (b : Nat) (blk : Blk), H1[b]? = some blk → H[b]? = some blk ∨ BelB H1.length blk) (h : vc47 (real Try.prog) a0 H (retF v H1)) : Ret Try.prog 47 [a0] H v H1 :=
  ret_mk (an := an47) hm Try.call47 Try.func47 rfl wf47 hd hn hb (Eq.mpr (tie47 (real Try.prog) a0 H (retF v H1)) h)

/- declaim/declaimref07.Join -/
def an48 : An := { imm := [], jn := [(4, [1, 2, 3, 10])], lp := [], loud := [29], ord := [] }
def vc48 (C : Cb) (a0 a1 a2 a3 : V) (H : Hp) (R : List V → Hp → Prop) : Prop :=
 C.aLen a0.nod.nod fun (v1 : V) =>
 C.aBin (Try.prog.underlying 3) .sub v1.nod a2.nod.nod fun (v2 : V) =>
 C.aSlc 1 a0.nod.nod none (some v2.nod.nod) none fun (v3 : V) =>
 C.aApp 1 8 (V.arr [] .full) v3.nod fun (v4 : V) =>
 Jn (fun (l5 : List V) (H6 : Hp) =>
 C.aBin (Try.prog.underlying 3) .add (l5.getD 2 .junk).nod.nod (l5.getD 1 .junk).nod.nod fun (v8 : V) =>
 C.aSlc 1 (l5.getD 0 .junk).nod.nod (some v8.nod) none none fun (v9 : V) =>
 C.aApp 1 8 (l5.getD 3 .junk) v9.nod fun (v10 : V) =>
 R [v10] H6)
 (fun (R7 : List V → Hp → Prop) =>
 C.aSlc 1 a0.nod.nod (some v2.nod.nod) none none fun (v11 : V) =>
 C.aBin (Try.prog.underlying 3) .add a3.nod.nod a2.nod.nod fun (v12 : V) =>
 C.aSlc 1 a1.nod.nod (some a3.nod.nod) (some v12.nod) none fun (v13 : V) =>
 C.call 22 [v11.nod, v13.nod] H fun (v14 : V) (H15 : Hp) =>
 C.aApp 1 8 v4 v14.nod fun (v16 : V) =>
 R7 [a1, a2, a3, v16] H15)
theorem wf48 : (Nat.ble 4 Try.f48.ntmps && wfC an48 Try.f48.ntmps (Try.f48.body.getD .skip)) = true := by kernel_rfl
theorem tie48 (C : Cb) (a0 a1 a2 a3 : V) (H : Hp) (R : List V → Hp → Prop) : wpG Try.prog C an48 (Try.f48.body.getD .skip) (argF [a0, a1, a2, a3]) H (retG Try.prog C Try.f48 R) (fun _ _ _ => False) (retG Try.prog C Try.f48 R) = vc48 C a0 a1 a2 a3 H R := by kernel_rfl
theorem mk48 (a0 a1 a2 a3 : V) {H : Hp} {v : V} {H1 : Hp} (hd : v.Nd) (hn : H.length ≤ H1.length) (hb : H1 = H ∨ ∀ (b : Nat) (blk : Blk), H1[b]? = some blk → H[b]? = some blk ∨ BelB H1.length blk) (h : vc48 (real Try.prog) a0 a1 a2 a3 H (retF v H1)) : Ret Try.prog 48 [a0, a1, a2, a3] H v H1 :=
  ret_mk (an := an48) hm Try.call48 Try.func48 rfl wf48 hd hn hb (Eq.mpr (tie48 (real Try.prog) a0 a1 a2 a3 H (retF v H1)) h)
theorem mko48 (a0 a1 a2 a3 : V) {H : Hp} {xs : List V} {H1 : Hp} (hn : H.length ≤ H1.length) (hb : H1 = H ∨ ∀ (b : Nat) (blk : Blk), H1[b]? = some blk → H[b]? = some blk ∨ BelB H1.length blk) (h : vc48 (real Try.prog) a0 a1 a2 a3 H (retO xs H1)) : Ret Try.prog 48 [a0, a1, a2, a3] H (.arr xs .own) H1 :=
  ret_mko (an := an48) (t := 8) hm Try.call48 Try.func48 rfl wf48 rfl hn hb (Eq.mpr (tie48 (real Try.prog) a0 a1 a2 a3 H (retO xs H1)) h)

/- declaim/join.Loudness -/
def an49 : An := { imm := [], jn := [(5, [0, 12])], lp := [], loud := [], ord := [] }
def vc49 (C : Cb) (a0 : V) (H : Hp) (R : List V → Hp → Prop) : Prop :=
 C.call 73 [a0.nod.nod] H fun (v1 : V) (H2 : Hp) =>
 C.aBin (Try.prog.underlying 25) .neq v1.nod.nod (I 0) fun (v3 : V) =>
 aCond v3.nod (
 R [(I 0), v1.nod] H2) (
 Jn (fun (l4 : List V) (H5 : Hp) =>
 aCond (l4.getD 1 .junk).nod (
 R [(I 0), (I 2)] H5) (
 C.call 74 [(l4.getD 0 .junk).nod.nod] H5 fun (v7 : V) (H8 : Hp) =>
 R [v7, (I 0)] H8))
 (fun (R6 : List V → Hp → Prop) =>
 C.aLen a0.nod.nod fun (v9 : V) =>
 C.aBin (Try.prog.underlying 3) .eql v9.nod (I 0) fun (v10 : V) =>
 R6 [a0, v10] H2))
theorem wf49 : (Nat.ble 1 Try.f49.ntmps && wfC an49 Try.f49.ntmps (Try.f49.body.getD .skip)) = true := by kernel_rfl
theorem tie49 (C : Cb) (a0 : V) (H : Hp) (R : List V → Hp → Prop) : wpG Try.prog C an49 (Try.f49.body.getD .skip) (argF [a0]) H (retG Try.prog C Try.f49 R) (fun _ _ _ => False) (retG Try.prog C Try.f49 R) = vc49 C a0 H R := by kernel_rfl
theorem mk49 (a0 : V) {H : Hp} {v : V} {H1 : Hp} (hd : v.Nd) (hn : H.length ≤ H1.length) (hb : H1 = H ∨ ∀ (b : Nat) (blk : Blk), H1[b]? = some blk → H[b]? = some blk ∨ BelB H1.length blk) (h : vc49 (real Try.prog) a0 H (retF v H1)) : Ret Try.prog 49 [a0] H v H1 :=
  ret_mk (an := an49) hm Try.call49 Try.func49 rfl wf49 hd hn hb (Eq.mpr (tie49 (real Try.prog) a0 H (retF v H1)) h)

/- declaim/declaimref07.Step -/
def an50 : An := { imm := [], jn := [(4, [0, 3, 4])], lp := [(3, [0, 3, 4])], loud := [], ord := [] }
def vc50 (C : Cb) (a0 : V) (H : Hp) (R : List V → Hp → Prop) : Prop :=
 LoopA (fun (l1 : List V) (H2 : Hp) (K3 : List V → Hp → Prop) =>
 C.aLen (l1.getD 0 .junk).nod.nod fun (v4 : V) =>
 C.aBin (Try.prog.underlying 3) .lss (l1.getD 2 .junk).nod.nod v4.nod fun (v5 : V) =>
 aCond v5.nod (
 Jn (fun (l6 : List V) (H7 : Hp) =>
 C.aBin (Try.prog.underlying 3) .add (l6.getD 2 .junk).nod.nod (I 1) fun (v9 : V) =>
 K3 [(l6.getD 0 .junk), (l6.getD 1 .junk), v9] H7)
 (fun (R8 : List V → Hp → Prop) =>
 C.aIx 1 (l1.getD 0 .junk).nod.nod (l1.getD 2 .junk).nod.nod fun (v10 : V) =>
 C.aLd 1 false false v10.nod H2 fun (v11 : V) (H12 : Hp) =>
 C.aBin (Try.prog.underlying 3) .sub (l1.getD 2 .junk).nod.nod (I 1) fun (v13 : V) =>
 C.aIx 1 (l1.getD 0 .junk).nod.nod v13.nod fun (v14 : V) =>
 C.aLd 1 false false v14.nod H12 fun (v15 : V) (H16 : Hp) =>
 C.aBin (Try.prog.underlying 3) .sub v11.nod v15.nod fun (v17 : V) =>
 C.aBin (Try.prog.underlying 3) .sub (l1.getD 2 .junk).nod.nod (I 1) fun (v18 : V) =>
 C.aIx 1 (l1.getD 0 .junk).nod.nod v18.nod fun (v19 : V) =>
 C.aLd 1 false false v19.nod H16 fun (v20 : V) (H21 : Hp) =>
 C.aIx 1 (l1.getD 0 .junk).nod.nod (l1.getD 2 .junk).nod.nod fun (v22 : V) =>
 C.aLd 1 false false v22.nod H21 fun (v23 : V) (H24 : Hp) =>
 C.aBin (Try.prog.underlying 3) .sub v20.nod v23.nod fun (v25 : V) =>
 C.aMM true [(l1.getD 1 .junk).nod.nod, v17.nod, v25.nod] fun (v26 : V) =>
 R8 [(l1.getD 0 .junk), v26, (l1.getD 2 .junk)] H24)) (
 R [(l1.getD 1 .junk).nod] H2))
 [a0, (I 0), (I 1)] H
theorem wf50 : (Nat.ble 1 Try.f50.ntmps && wfC an50 Try.f50.ntmps (Try.f50.body.getD .skip)) = true := by kernel_rfl
theorem tie50 (C : Cb) (a0 : V) (H : Hp) (R : List V → Hp → Prop) : wpG Try.prog C an50 (Try.f50.body.getD .skip) (argF [a0]) H (retG Try.prog C Try.f50 R) (fun _ _ _ => False) (retG Try.prog C Try.f50 R) = vc50 C a0 H R := by kernel_rfl
theorem mk50 (a0 : V) {H : Hp} {v : V} {H1 : Hp} (hd : v.Nd) (hn : H.length ≤ H1.length) (hb : H1 = H ∨ ∀ (b : Nat) (blk : Blk), H1[b]? = some blk → H[b]? = some blk ∨ BelB H1.length blk) (h : vc50 (real Try.prog) a0 H (retF v H1)) : Ret Try.prog 50 [a0] H v H1 :=
  ret_mk (an := an50) hm Try.call50 Try.func50 rfl wf50 hd hn hb (Eq.mpr (tie50 (real Try.prog) a0 H (retF v H1)) h)
theorem mko50 (a0 : V) {H : Hp} {xs : List V} {H1 : Hp} (hn : H.length ≤ H1.length) (hb : H1 = H ∨ ∀ (b : Nat) (blk : Blk), H1[b]? = some blk → H[b]? = some blk ∨ BelB H1.length blk) (h : vc50 (real Try.prog) a0 H (retO xs H1)) : Ret Try.prog 50 [a0] H (.arr xs .own) H1 :=
  ret_mko (an := an50) (t := 2) hm Try.call50 Try.func50 rfl wf50 rfl hn hb (Eq.mpr (tie50 (real Try.prog) a0 H (retO xs H1)) h)

/- declaim/declaimref07.Loudness -/
def an51 : An := { imm := [], jn := [(4, [0, 3, 4])], lp := [(3, [0, 3, 4]), (8, [3, 5])], loud := [], ord := [] }
def vc51 (C : Cb) (a0 : V) (H : Hp) (R : List V → Hp → Prop) : Prop :=
 LoopA (fun (l1 : List V) (H2 : Hp) (K3 : List V → Hp → Prop) =>
 C.aLen (l1.getD 0 .junk).nod.nod fun (v4 : V) =>
 C.aBin (Try.prog.underlying 3) .lss (l1.getD 2 .junk).nod.nod v4.nod fun (v5 : V) =>
 aCond v5.nod (
 Jn (fun (l6 : List V) (H7 : Hp) =>
 C.aBin (Try.prog.underlying 3) .add (l6.getD 2 .junk).nod.nod (I 1) fun (v9 : V) =>
 K3 [(l6.getD 0 .junk), (l6.getD 1 .junk), v9] H7)
 (fun (R8 : List V → Hp → Prop) =>
 C.aIx 1 (l1.getD 0 .junk).nod.nod (l1.getD 2 .junk).nod.nod fun (v10 : V) =>
 C.aLd 1 false false v10.nod H2 fun (v11 : V) (H12 : Hp) =>
 C.aIx 1 (l1.getD 0 .junk).nod.nod (l1.getD 2 .junk).nod.nod fun (v13 : V) =>
 C.aLd 1 false false v13.nod H12 fun (v14 : V) (H15 : Hp) =>
 C.aBin (Try.prog.underlying 3) .mul v11.nod v14.nod fun (v16 : V) =>
 C.aBin (Try.prog.underlying 3) .add (l1.getD 1 .junk).nod.nod v16.nod fun (v17 : V) =>
 R8 [(l1.getD 0 .junk), v17, (l1.getD 2 .junk)] H15)) (
 C.aLen (l1.getD 0 .junk).nod.nod fun (v18 : V) =>
 C.aBin (Try.prog.underlying 3) .quo (l1.getD 1 .junk).nod.nod v18.nod fun (v19 : V) =>
 LoopA (fun (l20 : List V) (H21 : Hp) (K22 : List V → Hp → Prop) =>
 C.aBin (Try.prog.underlying 3) .add (l20.getD 1 .junk).nod.nod (I 1) fun (v23 : V) =>
 C.aBin (Try.prog.underlying 3) .add (l20.getD 1 .junk).nod.nod (I 1) fun (v24 : V) =>
 C.aBin (Try.prog.underlying 3) .mul v23.nod v24.nod fun (v25 : V) =>
 C.aBin (Try.prog.underlying 3) .leq v25.nod (l20.getD 0 .junk).nod.nod fun (v26 : V) =>
 aCond v26.nod (
 C.aBin (Try.prog.underlying 3) .add (l20.getD 1 .junk).nod.nod (I 1) fun (v27 : V) =>
 K22 [(l20.getD 0 .junk), v27] H21) (
 R [(l20.getD 1 .junk).nod] H21))
 [v19, (I 0)] H2))
 [a0, (I 0), (I 0)] H
theorem wf51 : (Nat.ble 1 Try.f51.ntmps && wfC an51 Try.f51.ntmps (Try.f51.body.getD .skip)) = true := by kernel_rfl
theorem tie51 (C : Cb) (a0 : V) (H : Hp) (R : List V → Hp → Prop) : wpG Try.prog C an51 (Try.f51.body.getD .skip) (argF [a0]) H (retG Try.prog C Try.f51 R) (fun _ _ _ => False) (retG Try.prog C Try.f51 R) = vc51 C a0 H R := by kernel_rfl
theorem mk51 (a0 : V) {H : Hp} {v : V} {H1 : Hp} (hd : v.Nd) (hn : H.length ≤ H1.length) (hb : H1 = H ∨ ∀ (b : Nat) (blk : Blk), H1[b]? = some blk → H[b]? = some blk ∨ BelB H1.length blk) (h : vc51 (real Try.prog) a0 H (retF v H1)) : Ret Try.prog 51 [a0] H v H1 :=
  ret_mk (an := an51) hm Try.call51 Try.func51 rfl wf51 hd hn hb (Eq.mpr (tie51 (real Try.prog) a0 H (retF v H1)) h)
theorem mko51 (a0 : V) {H : Hp} {xs : List V} {H1 : Hp} (hn : H.length ≤ H1.length) (hb : H1 = H ∨ ∀ (b : Nat) (blk : Blk), H1[b]? = some blk → H[b]? = some blk ∨ BelB H1.length blk) (h : vc51 (real Try.prog) a0 H (retO xs H1)) : Ret Try.prog 51 [a0] H (.arr xs .own) H1 :=
  ret_mko (an := an51) (t := 2) hm Try.call51 Try.func51 rfl wf51 rfl hn hb (Eq.mpr (tie51 (real Try.prog) a0 H (retO xs H1)) h)

/- declaim/join.Gain -/
def an52 : An := { imm := [], jn := [(4, [0, 1, 2]), (5, [0, 1, 2, 33]), (12, [1, 2, 10, 11, 12, 14, 37, 38, 39, 49]), (13, [1, 2, 10, 11, 12, 14, 37, 38, 39])], lp := [(8, [1, 2, 10, 11, 37, 38, 39])], loud := [], ord := [] }
def vc52 (C : Cb) (a0 a1 a2 : V) (H : Hp) (R : List V → Hp → Prop) : Prop :=
 Jn (fun (l1 : List V) (H2 : Hp) =>
 Jn (fun (l4 : List V) (H5 : Hp) =>
 aCond (l4.getD 3 .junk).nod (
 R [(V.arr [] .full), (I 0), (I 2)] H5) (
 C.aLen (l4.getD 0 .junk).nod.nod fun (v7 : V) =>
 C.aMk false (I 0) 8 v7.nod v7.nod H5 fun (v8 : V) (H9 : Hp) =>
 C.aLen (l4.getD 0 .junk).nod.nod fun (v10 : V) =>
 LoopA (fun (l11 : List V) (H12 : Hp) (K13 : List V → Hp → Prop) =>
 C.aBin (Try.prog.underlying 3) .lss (l11.getD 6 .junk).nod (l11.getD 5 .junk).nod fun (v14 : V) =>
 aCond v14.nod (
 C.aIx 1 (l11.getD 4 .junk).nod (l11.getD 6 .junk).nod fun (v15 : V) =>
 C.aLd 1 false false v15.nod H12 fun (v16 : V) (H17 : Hp) =>
 C.call 75 [v16.nod.nod, (l11.getD 0 .junk).nod.nod, (l11.getD 1 .junk).nod.nod] H17 fun (v18 : V) (H19 : Hp) =>
 Jn (fun (l20 : List V) (H21 : Hp) =>
 C.aMM true [(I (-32768)), (l20.getD 5 .junk).nod.nod] fun (v23 : V) =>
 C.aMM false [(I 32767), v23.nod] fun (v24 : V) =>
 C.aIx 1 (l20.getD 2 .junk).nod.nod (l20.getD 4 .junk).nod.nod fun (v25 : V) =>
 C.aSt 1 v25.nod v24 H21 fun (v26 : V) (H27 : Hp) =>
 C.aBin (Try.prog.underlying 3) .add (l20.getD 8 .junk).nod (I 1) fun (v28 : V) =>
 K13 [(l20.getD 0 .junk), (l20.getD 1 .junk), (l20.getD 2 .junk), (l20.getD 3 .junk), (l20.getD 6 .junk), (l20.getD 7 .junk), v28.nod] H27)
 (fun (R22 : List V → Hp → Prop) =>
 Jn (fun (l29 : List V) (H30 : Hp) =>
 aCond (l29.getD 9 .junk).nod (
 C.aBin (Try.prog.underlying 3) .add (l29.getD 3 .junk).nod.nod (I 1) fun (v32 : V) =>
 R22 [(l29.getD 0 .junk), (l29.getD 1 .junk), (l29.getD 2 .junk), v32, (l29.getD 4 .junk), (l29.getD 5 .junk), (l29.getD 6 .junk), (l29.getD 7 .junk), (l29.getD 8 .junk)] H30) (
 R22 [(l29.getD 0 .junk), (l29.getD 1 .junk), (l29.getD 2 .junk), (l29.getD 3 .junk), (l29.getD 4 .junk), (l29.getD 5 .junk), (l29.getD 6 .junk), (l29.getD 7 .junk), (l29.getD 8 .junk)] H30))
 (fun (R31 : List V → Hp → Prop) =>
 C.call 76 [v18.nod.nod] H19 fun (v33 : V) (H34 : Hp) =>
 R31 [(l11.getD 0 .junk), (l11.getD 1 .junk), (l11.getD 2 .junk), (l11.getD 3 .junk), (l11.getD 6 .junk).nod, v18, (l11.getD 4 .junk), (l11.getD 5 .junk), (l11.getD 6 .junk), v33] H34))) (
 R [(l11.getD 2 .junk).nod, (l11.getD 3 .junk).nod, (I 0)] H12))
 [(l4.getD 1 .junk), (l4.getD 2 .junk), v8, (I 0), (l4.getD 0 .junk).nod, v10, (I 0)] H9))
 (fun (R6 : List V → Hp → Prop) =>
 C.aBin (Try.prog.underlying 3) .lss (l1.getD 1 .junk).nod.nod (I 0) fun (v35 : V) =>
 Jv (fun (v36 : V) (H37 : Hp) =>
 Jv (fun (v40 : V) (H41 : Hp) =>
 Jv (fun (v44 : V) (H45 : Hp) =>
 R6 [(l1.getD 0 .junk), (l1.getD 1 .junk), (l1.getD 2 .junk), v44] H45)
 (fun (R46 : V → Hp → Prop) =>
 aG v40.nod false (
 C.aBin (Try.prog.underlying 3) .gtr (l1.getD 2 .junk).nod.nod (I 1000000) fun (v47 : V) =>
 R46 v47.nod H41) (
 R46 (B true) H41)))
 (fun (R42 : V → Hp → Prop) =>
 aG v36.nod false (
 C.aBin (Try.prog.underlying 3) .lss (l1.getD 2 .junk).nod.nod (I 1) fun (v43 : V) =>
 R42 v43.nod H37) (
 R42 (B true) H37)))
 (fun (R38 : V → Hp → Prop) =>
 aG v35.nod false (
 C.aBin (Try.prog.underlying 3) .gtr (l1.getD 1 .junk).nod.nod (I 1000000) fun (v39 : V) =>
 R38 v39.nod H2) (
 R38 (B true) H2))))
 (fun (R3 : List V → Hp → Prop) =>
 C.call 73 [a0.nod.nod] H fun (v48 : V) (H49 : Hp) =>
 C.aBin (Try.prog.underlying 25) .neq v48.nod.nod (I 0) fun (v50 : V) =>
 aCond v50.nod (
 R [(V.arr [] .full), (I 0), v48.nod] H49) (
 R3 [a0, a1, a2] H49))
theorem wf52 : (Nat.ble 3 Try.f52.ntmps && wfC an52 Try.f52.ntmps (Try.f52.body.getD .skip)) = true := by kernel_rfl
theorem tie52 (C : Cb) (a0 a1 a2 : V) (H : Hp) (R : List V → Hp → Prop) : wpG Try.prog C an52 (Try.f52.body.getD .skip) (argF [a0, a1, a2]) H (retG Try.prog C Try.f52 R) (fun _ _ _ => False) (retG Try.prog C Try.f52 R) = vc52 C a0 a1 a2 H R := by kernel_rfl
theorem mk52 (a0 a1 a2 : V) {H : Hp} {v : V} {H1 : Hp} (hd : v.Nd) (hn : H.length ≤ H1.length) (hb : H1 = H ∨ ∀ (b : Nat) (blk : Blk), H1[b]? = some blk → H[b]? = some blk ∨ BelB H1.length blk) (h : vc52 (real Try.prog) a0 a1 a2 H (retF v H1)) : Ret Try.prog 52 [a0, a1, a2] H v H1 :=
  ret_mk (an := an52) hm Try.call52 Try.func52 rfl wf52 hd hn hb (Eq.mpr (tie52 (real Try.prog) a0 a1 a2 H (retF v H1)) h)

/- declaim/join.Loudest -/
def an53 : An := { imm := [], jn := [(5, [0, 1, 17])], lp := [], loud := [], ord := [] }
def vc53 (C : Cb) (a0 a1 : V) (H : Hp) (R : List V → Hp → Prop) : Prop :=
 C.call 73 [a0.nod.nod] H fun (v1 : V) (H2 : Hp) =>
 C.aBin (Try.prog.underlying 25) .neq v1.nod.nod (I 0) fun (v3 : V) =>
 aCond v3.nod (
 R [(I 0), v1.nod] H2) (
 Jn (fun (l4 : List V) (H5 : Hp) =>
 aCond (l4.getD 2 .junk).nod (
 R [(I 0), (I 2)] H5) (
 C.call 77 [(l4.getD 0 .junk).nod.nod, (l4.getD 1 .junk).nod.nod] H5 fun (v7 : V) (H8 : Hp) =>
 R [v7, (I 0)] H8))
 (fun (R6 : List V → Hp → Prop) =>
 C.aBin (Try.prog.underlying 3) .lss a1.nod.nod (I 1) fun (v9 : V) =>
 Jv (fun (v10 : V) (H11 : Hp) =>
 R6 [a0, a1, v10] H11)
 (fun (R12 : V → Hp → Prop) =>
 aG v9.nod false (
 C.aBin (Try.prog.underlying 3) .gtr a1.nod.nod (I 1000000) fun (v13 : V) =>
 R12 v13.nod H2) (
 R12 (B true) H2))))
theorem wf53 : (Nat.ble 2 Try.f53.ntmps && wfC an53 Try.f53.ntmps (Try.f53.body.getD .skip)) = true := by kernel_rfl
theorem tie53 (C : Cb) (a0 a1 : V) (H : Hp) (R : List V → Hp → Prop) : wpG Try.prog C an53 (Try.f53.body.getD .skip) (argF [a0, a1]) H (retG Try.prog C Try.f53 R) (fun _ _ _ => False) (retG Try.prog C Try.f53 R) = vc53 C a0 a1 H R := by kernel_rfl
theorem mk53 (a0 a1 : V) {H : Hp} {v : V} {H1 : Hp} (hd : v.Nd) (hn : H.length ≤ H1.length) (hb : H1 = H ∨ ∀ (b : Nat) (blk : Blk), H1[b]? = some blk → H[b]? = some blk ∨ BelB H1.length blk) (h : vc53 (real Try.prog) a0 a1 H (retF v H1)) : Ret Try.prog 53 [a0, a1] H v H1 :=
  ret_mk (an := an53) hm Try.call53 Try.func53 rfl wf53 hd hn hb (Eq.mpr (tie53 (real Try.prog) a0 a1 H (retF v H1)) h)

/- declaim/declaimref07.Gain -/
def an54 : An := { imm := [], jn := [(7, [0, 1, 2, 8, 9, 10, 11]), (9, [0, 1, 2, 8, 9, 10, 11])], lp := [(4, [0, 1, 2, 8, 9, 10])], loud := [], ord := [] }
def vc54 (C : Cb) (a0 a1 a2 : V) (H : Hp) (R : List V → Hp → Prop) : Prop :=
 LoopA (fun (l1 : List V) (H2 : Hp) (K3 : List V → Hp → Prop) =>
 C.aLen (l1.getD 0 .junk).nod.nod fun (v4 : V) =>
 C.aBin (Try.prog.underlying 3) .lss (l1.getD 5 .junk).nod.nod v4.nod fun (v5 : V) =>
 aCond v5.nod (
 Jn (fun (l6 : List V) (H7 : Hp) =>
 Jn (fun (l9 : List V) (H10 : Hp) =>
 C.call 72 [(l9.getD 6 .junk).nod.nod] H10 fun (v12 : V) (H13 : Hp) =>
 C.aBS 1 1 (I 0) [(0, v12.nod)] fun (v14 : V) =>
 C.aApp 1 8 (l9.getD 3 .junk) v14.nod fun (v15 : V) =>
 C.aBin (Try.prog.underlying 3) .add (l9.getD 5 .junk).nod.nod (I 1) fun (v16 : V) =>
 K3 [(l9.getD 0 .junk), (l9.getD 1 .junk), (l9.getD 2 .junk), v15, (l9.getD 4 .junk), v16] H13)
 (fun (R11 : List V → Hp → Prop) =>
 C.call 72 [(l6.getD 6 .junk).nod.nod] H7 fun (v17 : V) (H18 : Hp) =>
 C.aBin (Try.prog.underlying 3) .neq (l6.getD 6 .junk).nod.nod v17.nod fun (v19 : V) =>
 aCond v19.nod (
 C.aBin (Try.prog.underlying 3) .add (l6.getD 4 .junk).nod.nod (I 1) fun (v20 : V) =>
 R11 [(l6.getD 0 .junk), (l6.getD 1 .junk), (l6.getD 2 .junk), (l6.getD 3 .junk), v20, (l6.getD 5 .junk), (l6.getD 6 .junk)] H18) (
 R11 [(l6.getD 0 .junk), (l6.getD 1 .junk), (l6.getD 2 .junk), (l6.getD 3 .junk), (l6.getD 4 .junk), (l6.getD 5 .junk), (l6.getD 6 .junk)] H18)))
 (fun (R8 : List V → Hp → Prop) =>
 C.aIx 1 (l1.getD 0 .junk).nod.nod (l1.getD 5 .junk).nod.nod fun (v21 : V) =>
 C.aLd 1 false false v21.nod H2 fun (v22 : V) (H23 : Hp) =>
 C.aBin (Try.prog.underlying 3) .mul v22.nod (l1.getD 1 .junk).nod.nod fun (v24 : V) =>
 C.call 59 [v24.nod, (l1.getD 2 .junk).nod.nod] H23 fun (v25 : V) (H26 : Hp) =>
 R8 [(l1.getD 0 .junk), (l1.getD 1 .junk), (l1.getD 2 .junk), (l1.getD 3 .junk), (l1.getD 4 .junk), (l1.getD 5 .junk), v25] H26)) (
 R [(l1.getD 3 .junk).nod, (l1.getD 4 .junk).nod] H2))
 [a0, a1, a2, (V.arr [] .full), (I 0), (I 0)] H
theorem wf54 : (Nat.ble 3 Try.f54.ntmps && wfC an54 Try.f54.ntmps (Try.f54.body.getD .skip)) = true := by kernel_rfl
theorem tie54 (C : Cb) (a0 a1 a2 : V) (H : Hp) (R : List V → Hp → Prop) : wpG Try.prog C an54 (Try.f54.body.getD .skip) (argF [a0, a1, a2]) H (retG Try.prog C Try.f54 R) (fun _ _ _ => False) (retG Try.prog C Try.f54 R) = vc54 C a0 a1 a2 H R := by kernel_rfl
theorem mk54 (a0 a1 a2 : V) {H : Hp} {v : V} {H1 : Hp} (hd : v.Nd) (hn : H.length ≤ H1.length) (hb : H1 = H ∨ ∀ (b : Nat) (blk : Blk), H1[b]? = some blk → H[b]? = some blk ∨ BelB H1.length blk) (h : vc54 (real Try.prog) a0 a1 a2 H (retF v H1)) : Ret Try.prog 54 [a0, a1, a2] H v H1 :=
  ret_mk (an := an54) hm Try.call54 Try.func54 rfl wf54 hd hn hb (Eq.mpr (tie54 (real Try.prog) a0 a1 a2 H (retF v H1)) h)

/- declaim/join.Level -/
def an55 : An := { imm := [2, 3], jn := [(4, [2, 3]), (5, [2, 3, 25]), (9, [3, 8, 9])], lp := [], loud := [34, 35], ord := [(9, [(0, 2)], [[1, 2, 0, 3, 4, 5], [0, 1, 2, 3, 4, 5]])] }
def vc55 (C : Cb) (a0 a1 : V) (H : Hp) (R : List V → Hp → Prop) : Prop :=
 C.aBx true 1 a0.nod H fun (v1 : V) (H2 : Hp) =>
 C.aBx true 1 a1.nod H2 fun (v3 : V) (H4 : Hp) =>
 Jn (fun (l5 : List V) (H6 : Hp) =>
 Jn (fun (l8 : List V) (H9 : Hp) =>
 aCond (l8.getD 2 .junk).nod (
 R [(V.arr [] .full), (I 2)] H9) (
 C.aLd 1 false false (l8.getD 0 .junk).nod H9 fun (v11 : V) (H12 : Hp) =>
 C.aLen v11.nod fun (v13 : V) =>
 C.aMk false (I 0) 8 v13.nod v13.nod H12 fun (v14 : V) (H15 : Hp) =>
 C.aBx false 1 (V.arr [] .full) H15 fun (v16 : V) (H17 : Hp) =>
 C.aSt 1 v16.nod v14 H17 fun (v18 : V) (H19 : Hp) =>
 C.aBx false 1 (V.imm .nilFunc) H19 fun (v20 : V) (H21 : Hp) =>
 C.aSt 1 v20.nod (V.fn 78 [(l8.getD 0 .junk).nod, v16.nod]) H21 fun (v22 : V) (H23 : Hp) =>
 Jn (fun (l24 : List V) (H25 : Hp) =>
 (C.call 79 [(V.fn 80 [(l24.getD 2 .junk).nod, (l24.getD 1 .junk).nod, (l24.getD 0 .junk).nod])] H25 fun (v27 : V) (H28 : Hp) =>
 C.aLd 1 false false (l24.getD 1 .junk).nod H28 fun (v29 : V) (H30 : Hp) =>
 aCallG C v29.nod [v27.nod] H30 fun (v31 : V) (H32 : Hp) =>
 R [v31, (I 0)] H32) ∧ (C.aLd 1 false false (l24.getD 1 .junk).nod H25 fun (v33 : V) (H34 : Hp) =>
 C.call 79 [(V.fn 80 [(l24.getD 2 .junk).nod, (l24.getD 1 .junk).nod, (l24.getD 0 .junk).nod])] H34 fun (v35 : V) (H36 : Hp) =>
 aCallG C v33.nod [v35.nod] H36 fun (v37 : V) (H38 : Hp) =>
 R [v37, (I 0)] H38))
 (fun (R26 : List V → Hp → Prop) =>
 C.aLd 1 false false (l8.getD 0 .junk).nod H23 fun (v39 : V) (H40 : Hp) =>
 C.call 77 [v39.nod, (I 1000)] H40 fun (v41 : V) (H42 : Hp) =>
 C.aBx false 1 (I 0) H42 fun (v43 : V) (H44 : Hp) =>
 C.aSt 1 v43.nod v41 H44 fun (v45 : V) (H46 : Hp) =>
 R26 [(l8.getD 1 .junk), v20, v43] H46)))
 (fun (R10 : List V → Hp → Prop) =>
 C.aLd 1 false false (l5.getD 0 .junk).nod H6 fun (v47 : V) (H48 : Hp) =>
 C.aLen v47.nod fun (v49 : V) =>
 C.aBin (Try.prog.underlying 3) .eql v49.nod (I 0) fun (v50 : V) =>
 Jv (fun (v51 : V) (H52 : Hp) =>
 Jv (fun (v57 : V) (H58 : Hp) =>
 R10 [(l5.getD 0 .junk), (l5.getD 1 .junk), v57] H58)
 (fun (R59 : V → Hp → Prop) =>
 aG v51.nod false (
 C.aLd 1 false false (l5.getD 1 .junk).nod H52 fun (v60 : V) (H61 : Hp) =>
 C.aBin (Try.prog.underlying 3) .gtr v60.nod (I 32768) fun (v62 : V) =>
 R59 v62.nod H61) (
 R59 (B true) H52)))
 (fun (R53 : V → Hp → Prop) =>
 aG v50.nod false (
 C.aLd 1 false false (l5.getD 1 .junk).nod H48 fun (v54 : V) (H55 : Hp) =>
 C.aBin (Try.prog.underlying 3) .lss v54.nod (I 0) fun (v56 : V) =>
 R53 v56.nod H55) (
 R53 (B true) H48))))
 (fun (R7 : List V → Hp → Prop) =>
 C.aLd 1 false false v1.nod H4 fun (v63 : V) (H64 : Hp) =>
 C.call 73 [v63.nod] H64 fun (v65 : V) (H66 : Hp) =>
 C.aBin (Try.prog.underlying 25) .neq v65.nod.nod (I 0) fun (v67 : V) =>
 aCond v67.nod (
 R [(V.arr [] .full), v65.nod] H66) (
 R7 [v1, v3] H66))
theorem wf55 : (Nat.ble 2 Try.f55.ntmps && wfC an55 Try.f55.ntmps (Try.f55.body.getD .skip)) = true := by kernel_rfl
theorem tie55 (C : Cb) (a0 a1 : V) (H : Hp) (R : List V → Hp → Prop) : wpG Try.prog C an55 (Try.f55.body.getD .skip) (argF [a0, a1]) H (retG Try.prog C Try.f55 R) (fun _ _ _ => False) (retG Try.prog C Try.f55 R) = vc55 C a0 a1 H R := by kernel_rfl
theorem mk55 (a0 a1 : V) {H : Hp} {v : V} {H1 : Hp} (hd : v.Nd) (hn : H.length ≤ H1.length) (hb : H1 = H ∨ ∀ (b : Nat) (blk : Blk), H1[b]? = some blk → H[b]? = some blk ∨ BelB H1.length blk) (h : vc55 (real Try.prog) a0 a1 H (retF v H1)) : Ret Try.prog 55 [a0, a1] H v H1 :=
  ret_mk (an := an55) hm Try.call55 Try.func55 rfl wf55 hd hn hb (Eq.mpr (tie55 (real Try.prog) a0 a1 H (retF v H1)) h)

/- declaim/declaimlaw07.example -/
def an56 : An := { imm := [], jn := [], lp := [], loud := [], ord := [] }
def vc56 (C : Cb) (H : Hp) (R : List V → Hp → Prop) : Prop :=
 C.aBx false 2 (V.agg [(V.arr [] .full), (V.arr [] .full)]) H fun (v1 : V) (H2 : Hp) =>
 C.aBS 1 6 (I 0) [(0, (I 5)), (1, (I 1)), (2, (I 2)), (3, (I 3)), (4, (I 4)), (5, (I 6))] fun (v3 : V) =>
 C.aBS 1 3 (I 0) [(0, (I 1)), (1, (I 3)), (2, (I 5))] fun (v4 : V) =>
 C.aBd [(V.arr [] .full), (V.arr [] .full)] [(0, 1, v3.nod), (1, 1, v4.nod.nod)] fun (v5 : V) =>
 C.aSt 2 v1.nod (own0 v5 v3) H2 fun (v6 : V) (H7 : Hp) =>
 C.aRes 2 true v1 H7 fun (v8 : V) =>
 R [v8] H7
theorem wf56 : (Nat.ble 0 Try.f56.ntmps && wfC an56 Try.f56.ntmps (Try.f56.body.getD .skip)) = true := by kernel_rfl
theorem tie56 (C : Cb) (H : Hp) (R : List V → Hp → Prop) : wpG Try.prog C an56 (Try.f56.body.getD .skip) (argF []) H (retG Try.prog C Try.f56 R) (fun _ _ _ => False) (retG Try.prog C Try.f56 R) = vc56 C H R := by kernel_rfl
theorem mk56 {H : Hp} {v : V} {H1 : Hp} (hd : v.Nd) (hn : H.length ≤ H1.length) (hb : H1 = H ∨ ∀ (b : Nat) (blk : Blk), H1[b]? = some blk → H[b]? = some blk ∨ BelB H1.length blk) (h : vc56 (real Try.prog) H (retF v H1)) : Ret Try.prog 56 [] H v H1 :=
  ret_mk (an := an56) hm Try.call56 Try.func56 rfl wf56 hd hn hb (Eq.mpr (tie56 (real Try.prog) H (retF v H1)) h)

/- declaim/join.waves -/
def an57 : An := { imm := [], jn := [], lp := [], loud := [], ord := [] }
def vc57 (C : Cb) (a0 : V) (H : Hp) (R : List V → Hp → Prop) : Prop :=
 C.call 81 [a0.nod.nod, (V.fn 82 [])] H fun (v1 : V) (H2 : Hp) =>
 aCond v1.nod (
 R [(I 4)] H2) (
 C.call 81 [a0.nod.nod, (V.fn 83 [])] H2 fun (v3 : V) (H4 : Hp) =>
 aCond v3.nod (
 R [(I 2)] H4) (
 R [(I 0)] H4))
theorem wf57 : (Nat.ble 1 Try.f57.ntmps && wfC an57 Try.f57.ntmps (Try.f57.body.getD .skip)) = true := by kernel_rfl
theorem tie57 (C : Cb) (a0 : V) (H : Hp) (R : List V → Hp → Prop) : wpG Try.prog C an57 (Try.f57.body.getD .skip) (argF [a0]) H (retG Try.prog C Try.f57 R) (fun _ _ _ => False) (retG Try.prog C Try.f57 R) = vc57 C a0 H R := by kernel_rfl
theorem mk57 (a0 : V) {H : Hp} {v : V} {H1 : Hp} (hd : v.Nd) (hn : H.length ≤ H1.length) (hb : H1 = H ∨ ∀ (b : Nat) (blk : Blk), H1[b]? = some blk → H[b]? = some blk ∨ BelB H1.length blk) (h : vc57 (real Try.prog) a0 H (retF v H1)) : Ret Try.prog 57 [a0] H v H1 :=
  ret_mk (an := an57) hm Try.call57 Try.func57 rfl wf57 hd hn hb (Eq.mpr (tie57 (real Try.prog) a0 H (retF v H1)) h)
theorem mko57 (a0 : V) {H : Hp} {xs : List V} {H1 : Hp} (hn : H.length ≤ H1.length) (hb : H1 = H ∨ ∀ (b : Nat) (blk : Blk), H1[b]? = some blk → H[b]? = some blk ∨ BelB H1.length blk) (h : vc57 (real Try.prog) a0 H (retO xs H1)) : Ret Try.prog 57 [a0] H (.arr xs .own) H1 :=
  ret_mko (an := an57) (t := 2) hm Try.call57 Try.func57 rfl wf57 rfl hn hb (Eq.mpr (tie57 (real Try.prog) a0 H (retO xs H1)) h)

/- declaim/join.fade -/
def an58 : An := { imm := [], jn := [], lp := [(4, [0, 1, 5, 6, 13, 14])], loud := [37], ord := [] }
def vc58 (C : Cb) (a0 a1 : V) (H : Hp) (R : List V → Hp → Prop) : Prop :=
 C.aLen a0.nod.nod fun (v1 : V) =>
 C.aMk false (I 0) 8 v1.nod.nod v1.nod.nod H fun (v2 : V) (H3 : Hp) =>
 C.aLen v2.nod.nod fun (v4 : V) =>
 LoopA (fun (l5 : List V) (H6 : Hp) (K7 : List V → Hp → Prop) =>
 C.aBin (Try.prog.underlying 3) .lss (l5.getD 5 .junk).nod (l5.getD 4 .junk).nod fun (v8 : V) =>
 aCond v8.nod (
 C.aBin (Try.prog.underlying 3) .sub (l5.getD 2 .junk).nod.nod (l5.getD 5 .junk).nod.nod.nod fun (v9 : V) =>
 C.aIx 1 (l5.getD 0 .junk).nod.nod (l5.getD 5 .junk).nod.nod.nod fun (v10 : V) =>
 C.aLd 1 false false v10.nod H6 fun (v11 : V) (H12 : Hp) =>
 C.aBin (Try.prog.underlying 3) .mul v9.nod v11.nod fun (v13 : V) =>
 C.aBin (Try.prog.underlying 3) .add (l5.getD 5 .junk).nod.nod.nod (I 1) fun (v14 : V) =>
 C.aIx 1 (l5.getD 1 .junk).nod.nod (l5.getD 5 .junk).nod.nod.nod fun (v15 : V) =>
 C.aLd 1 false false v15.nod H12 fun (v16 : V) (H17 : Hp) =>
 C.aBin (Try.prog.underlying 3) .mul v14.nod v16.nod fun (v18 : V) =>
 C.aBin (Try.prog.underlying 3) .add v13.nod v18.nod fun (v19 : V) =>
 C.aBin (Try.prog.underlying 3) .add (l5.getD 2 .junk).nod.nod (I 1) fun (v20 : V) =>
 C.call 71 [v19.nod, v20.nod] H17 fun (v21 : V) (H22 : Hp) =>
 C.aIx 1 (l5.getD 3 .junk).nod.nod (l5.getD 5 .junk).nod.nod.nod fun (v23 : V) =>
 C.aSt 1 v23.nod v21 H22 fun (v24 : V) (H25 : Hp) =>
 C.aBin (Try.prog.underlying 3) .add (l5.getD 5 .junk).nod (I 1) fun (v26 : V) =>
 K7 [(l5.getD 0 .junk), (l5.getD 1 .junk), (l5.getD 2 .junk), (l5.getD 3 .junk), (l5.getD 4 .junk), v26.nod] H25) (
 R [(l5.getD 3 .junk).nod] H6))
 [a0, a1, v1, v2, v4, (I 0)] H3
theorem wf58 : (Nat.ble 2 Try.f58.ntmps && wfC an58 Try.f58.ntmps (Try.f58.body.getD .skip)) = true := by kernel_rfl
theorem tie58 (C : Cb) (a0 a1 : V) (H : Hp) (R : List V → Hp → Prop) : wpG Try.prog C an58 (Try.f58.body.getD .skip) (argF [a0, a1]) H (retG Try.prog C Try.f58 R) (fun _ _ _ => False) (retG Try.prog C Try.f58 R) = vc58 C a0 a1 H R := by kernel_rfl
theorem mk58 (a0 a1 : V) {H : Hp} {v : V} {H1 : Hp} (hd : v.Nd) (hn : H.length ≤ H1.length) (hb : H1 = H ∨ ∀ (b : Nat) (blk : Blk), H1[b]? = some blk → H[b]? = some blk ∨ BelB H1.length blk) (h : vc58 (real Try.prog) a0 a1 H (retF v H1)) : Ret Try.prog 58 [a0, a1] H v H1 :=
  ret_mk (an := an58) hm Try.call58 Try.func58 rfl wf58 hd hn hb (Eq.mpr (tie58 (real Try.prog) a0 a1 H (retF v H1)) h)
theorem mko58 (a0 a1 : V) {H : Hp} {xs : List V} {H1 : Hp} (hn : H.length ≤ H1.length) (hb : H1 = H ∨ ∀ (b : Nat) (blk : Blk), H1[b]? = some blk → H[b]? = some blk ∨ BelB H1.length blk) (h : vc58 (real Try.prog) a0 a1 H (retO xs H1)) : Ret Try.prog 58 [a0, a1] H (.arr xs .own) H1 :=
  ret_mko (an := an58) (t := 4) hm Try.call58 Try.func58 rfl wf58 rfl hn hb (Eq.mpr (tie58 (real Try.prog) a0 a1 H (retO xs H1)) h)

/- declaim/declaimref07.Round -/
def an59 : An := { imm := [], jn := [], lp := [], loud := [], ord := [] }
def vc59 (C : Cb) (a0 a1 : V) (H : Hp) (R : List V → Hp → Prop) : Prop :=
 C.aBin (Try.prog.underlying 3) .lss a0.nod.nod (I 0) fun (v1 : V) =>
 aCond v1.nod (
 C.aUn .neg a0.nod.nod fun (v2 : V) =>
 C.call 59 [v2.nod, a1.nod.nod] H fun (v3 : V) (H4 : Hp) =>
 C.aUn .neg v3.nod fun (v5 : V) =>
 R [v5] H4) (
 C.aBin (Try.prog.underlying 3) .mul (I 2) a0.nod.nod fun (v6 : V) =>
 C.aBin (Try.prog.underlying 3) .add v6.nod a1.nod.nod fun (v7 : V) =>
 C.aBin (Try.prog.underlying 3) .mul (I 2) a1.nod.nod fun (v8 : V) =>
 C.aBin (Try.prog.underlying 3) .quo v7.nod v8.nod fun (v9 : V) =>
 R [v9] H)
theorem wf59 : (Nat.ble 2 Try.f59.ntmps && wfC an59 Try.f59.ntmps (Try.f59.body.getD .skip)) = true := by kernel_rfl
theorem tie59 (C : Cb) (a0 a1 : V) (H : Hp) (R : List V → Hp → Prop) : wpG Try.prog C an59 (Try.f59.body.getD .skip) (argF [a0, a1]) H (retG Try.prog C Try.f59 R) (fun _ _ _ => False) (retG Try.prog C Try.f59 R) = vc59 C a0 a1 H R := by kernel_rfl
theorem mk59 (a0 a1 : V) {H : Hp} {v : V} {H1 : Hp} (hd : v.Nd) (hn : H.length ≤ H1.length) (hb : H1 = H ∨ ∀ (b : Nat) (blk : Blk), H1[b]? = some blk → H[b]? = some blk ∨ BelB H1.length blk) (h : vc59 (real Try.prog) a0 a1 H (retF v H1)) : Ret Try.prog 59 [a0, a1] H v H1 :=
  ret_mk (an := an59) hm Try.call59 Try.func59 rfl wf59 hd hn hb (Eq.mpr (tie59 (real Try.prog) a0 a1 H (retF v H1)) h)
theorem mko59 (a0 a1 : V) {H : Hp} {xs : List V} {H1 : Hp} (hn : H.length ≤ H1.length) (hb : H1 = H ∨ ∀ (b : Nat) (blk : Blk), H1[b]? = some blk → H[b]? = some blk ∨ BelB H1.length blk) (h : vc59 (real Try.prog) a0 a1 H (retO xs H1)) : Ret Try.prog 59 [a0, a1] H (.arr xs .own) H1 :=
  ret_mko (an := an59) (t := 4) hm Try.call59 Try.func59 rfl wf59 rfl hn hb (Eq.mpr (tie59 (real Try.prog) a0 a1 H (retO xs H1)) h)

/- declaim/declaimref07.in -/
def an60 : An := { imm := [], jn := [], lp := [], loud := [], ord := [] }
def vc60 (C : Cb) (a0 a1 a2 : V) (H : Hp) (R : List V → Hp → Prop) : Prop :=
 C.aBin (Try.prog.underlying 3) .geq a0.nod.nod a1.nod.nod fun (v1 : V) =>
 Jv (fun (v2 : V) (H3 : Hp) =>
 R [v2] H3)
 (fun (R4 : V → Hp → Prop) =>
 aG v1.nod true (
 C.aBin (Try.prog.underlying 3) .leq a0.nod.nod a2.nod.nod fun (v5 : V) =>
 R4 v5.nod H) (
 R4 (B false) H))
theorem wf60 : (Nat.ble 3 Try.f60.ntmps && wfC an60 Try.f60.ntmps (Try.f60.body.getD .skip)) = true := by kernel_rfl
theorem tie60 (C : Cb) (a0 a1 a2 : V) (H : Hp) (R : List V → Hp → Prop) : wpG Try.prog C an60 (Try.f60.body.getD .skip) (argF [a0, a1, a2]) H (retG Try.prog C Try.f60 R) (fun _ _ _ => False) (retG Try.prog C Try.f60 R) = vc60 C a0 a1 a2 H R := by kernel_rfl
theorem mk60 (a0 a1 a2 : V) {H : Hp} {v : V} {H1 : Hp} (hd : v.Nd) (hn : H.length ≤ H1.length) (hb : H1 = H ∨ ∀ (b : Nat) (blk : Blk), H1[b]? = some blk → H[b]? = some blk ∨ BelB H1.length blk) (h : vc60 (real Try.prog) a0 a1 a2 H (retF v H1)) : Ret Try.prog 60 [a0, a1, a2] H v H1 :=
  ret_mk (an := an60) hm Try.call60 Try.func60 rfl wf60 hd hn hb (Eq.mpr (tie60 (real Try.prog) a0 a1 a2 H (retF v H1)) h)
theorem mko60 (a0 a1 a2 : V) {H : Hp} {xs : List V} {H1 : Hp} (hn : H.length ≤ H1.length) (hb : H1 = H ∨ ∀ (b : Nat) (blk : Blk), H1[b]? = some blk → H[b]? = some blk ∨ BelB H1.length blk) (h : vc60 (real Try.prog) a0 a1 a2 H (retO xs H1)) : Ret Try.prog 60 [a0, a1, a2] H (.arr xs .own) H1 :=
  ret_mko (an := an60) (t := 6) hm Try.call60 Try.func60 rfl wf60 rfl hn hb (Eq.mpr (tie60 (real Try.prog) a0 a1 a2 H (retO xs H1)) h)

/- slices.Clone[[]int,int] -/
def an61 : An := { imm := [], jn := [], lp := [], loud := [], ord := [] }
def vc61 (C : Cb) (a0 : V) (H : Hp) (R : List V → Hp → Prop) : Prop :=
 C.aNilS (Try.prog.underlying 22) .eql a0.nod.nod fun (v1 : V) =>
 aCond v1.nod (
 R [(V.arr [] .full)] H) (
 C.aBS 1 0 (I 0) [] fun (v2 : V) =>
 C.aApp 1 8 v2 a0.nod.nod fun (v3 : V) =>
 R [v3] H)
theorem wf61 : (Nat.ble 1 Try.f61.ntmps && wfC an61 Try.f61.ntmps (Try.f61.body.getD .skip)) = true := by kernel_rfl
theorem tie61 (C : Cb) (a0 : V) (H : Hp) (R : List V → Hp → Prop) : wpG Try.prog C an61 (Try.f61.body.getD .skip) (argF [a0]) H (retG Try.prog C Try.f61 R) (fun _ _ _ => False) (retG Try.prog C Try.f61 R) = vc61 C a0 H R := by kernel_rfl
theorem mk61 (a0 : V) {H : Hp} {v : V} {H1 : Hp} (hd : v.Nd) (hn : H.length ≤ H1.length) (hb : H1 = H ∨ ∀ (b : Nat) (blk : Blk), H1[b]? = some blk → H[b]? = some blk ∨ BelB H1.length blk) (h : vc61 (real Try.prog) a0 H (retF v H1)) : Ret Try.prog 61 [a0] H v H1 :=
  ret_mk (an := an61) hm Try.call61 Try.func61 rfl wf61 hd hn hb (Eq.mpr (tie61 (real Try.prog) a0 H (retF v H1)) h)
theorem mko61 (a0 : V) {H : Hp} {xs : List V} {H1 : Hp} (hn : H.length ≤ H1.length) (hb : H1 = H ∨ ∀ (b : Nat) (blk : Blk), H1[b]? = some blk → H[b]? = some blk ∨ BelB H1.length blk) (h : vc61 (real Try.prog) a0 H (retO xs H1)) : Ret Try.prog 61 [a0] H (.arr xs .own) H1 :=
  ret_mko (an := an61) (t := 2) hm Try.call61 Try.func61 rfl wf61 rfl hn hb (Eq.mpr (tie61 (real Try.prog) a0 H (retO xs H1)) h)

/- slices.Clone[[]int,int] -/
def an61b : An := { imm := [7], jn := [], lp := [], loud := [], ord := [] }
def vc61b (C : Cb) (a0 : V) (H : Hp) (R : List V → Hp → Prop) : Prop :=
 C.aNilS (Try.prog.underlying 22) .eql a0.nod.nod fun (v1 : V) =>
 aCond v1.nod (
 R [(V.arr [] .full)] H) (
 C.aBS 1 0 (I 0) [] fun (v2 : V) =>
 C.aAppB 1 8 v2 a0.nod.nod H fun (v3 : V) (H4 : Hp) =>
 R [v3] H4)
theorem wf61b : (Nat.ble 1 Try.f61.ntmps && wfC an61b Try.f61.ntmps (Try.f61.body.getD .skip)) = true := by kernel_rfl
theorem tie61b (C : Cb) (a0 : V) (H : Hp) (R : List V → Hp → Prop) : wpG Try.prog C an61b (Try.f61.body.getD .skip) (argF [a0]) H (retG Try.prog C Try.f61 R) (fun _ _ _ => False) (retG Try.prog C Try.f61 R) = vc61b C a0 H R := by kernel_rfl
theorem mk61b (a0 : V) {H : Hp} {v : V} {H1 : Hp} (hd : v.Nd) (hn : H.length ≤ H1.length) (hb : H1 = H ∨ ∀ (b : Nat) (blk : Blk), H1[b]? = some blk → H[b]? = some blk ∨ BelB H1.length blk) (h : vc61b (real Try.prog) a0 H (retF v H1)) : Ret Try.prog 61 [a0] H v H1 :=
  ret_mk (an := an61b) hm Try.call61 Try.func61 rfl wf61b hd hn hb (Eq.mpr (tie61b (real Try.prog) a0 H (retF v H1)) h)
theorem mko61b (a0 : V) {H : Hp} {xs : List V} {H1 : Hp} (hn : H.length ≤ H1.length) (hb : H1 = H ∨ ∀ (b : Nat) (blk : Blk), H1[b]? = some blk → H[b]? = some blk ∨ BelB H1.length blk) (h : vc61b (real Try.prog) a0 H (retO xs H1)) : Ret Try.prog 61 [a0] H (.arr xs .own) H1 :=
  ret_mko (an := an61b) (t := 2) hm Try.call61 Try.func61 rfl wf61b rfl hn hb (Eq.mpr (tie61b (real Try.prog) a0 H (retO xs H1)) h)

/- declaim/join.lag -/
def an62 : An := { imm := [], jn := [(4, [0, 1, 2, 3, 11, 12]), (6, [0, 1, 2, 3, 11, 12, 13]), (9, [0, 1, 2, 3, 11, 12, 13, 14, 37, 38, 39]), (12, [0, 1, 2, 3, 11, 12, 13, 14, 37, 38, 39])], lp := [(5, [0, 1, 2, 3, 11, 12, 13]), (9, [0, 1, 2, 3, 11, 12, 13, 14, 37, 38, 39])], loud := [], ord := [] }
def vc62 (C : Cb) (a0 a1 a2 a3 : V) (H : Hp) (R : List V → Hp → Prop) : Prop :=
 C.call 70 [a0.nod.nod, a1.nod.nod, a2.nod.nod, (I 0)] H fun (v1 : V) (H2 : Hp) =>
 C.aUn .not v1.nod fun (v3 : V) =>
 aCond v3.nod (
 R [(I 0), (I 0), (B false)] H2) (
 Jn (fun (l4 : List V) (H5 : Hp) =>
 Jn (fun (l7 : List V) (H8 : Hp) =>
 LoopA (fun (l10 : List V) (H11 : Hp) (K12 : List V → Hp → Prop) =>
 C.aLen (l10.getD 1 .junk).nod.nod fun (v13 : V) =>
 C.aBin (Try.prog.underlying 3) .sub v13.nod (l10.getD 2 .junk).nod.nod fun (v14 : V) =>
 C.aMM false [(l10.getD 3 .junk).nod.nod, v14.nod] fun (v15 : V) =>
 C.aBin (Try.prog.underlying 3) .leq (l10.getD 6 .junk).nod.nod v15.nod fun (v16 : V) =>
 aCond v16.nod (
 Jn (fun (l17 : List V) (H18 : Hp) =>
 C.aBin (Try.prog.underlying 3) .add (l17.getD 6 .junk).nod.nod (I 1) fun (v20 : V) =>
 K12 [(l17.getD 0 .junk), (l17.getD 1 .junk), (l17.getD 2 .junk), (l17.getD 3 .junk), (l17.getD 4 .junk), (l17.getD 5 .junk), v20] H18)
 (fun (R19 : List V → Hp → Prop) =>
 Jn (fun (l21 : List V) (H22 : Hp) =>
 LoopA (fun (l24 : List V) (H25 : Hp) (K26 : List V → Hp → Prop) =>
 C.aBin (Try.prog.underlying 3) .lss (l24.getD 10 .junk).nod (l24.getD 9 .junk).nod fun (v27 : V) =>
 aCond v27.nod (
 C.aIx 1 (l24.getD 8 .junk).nod (l24.getD 10 .junk).nod fun (v28 : V) =>
 C.aLd 1 false false v28.nod H25 fun (v29 : V) (H30 : Hp) =>
 Jn (fun (l31 : List V) (H32 : Hp) =>
 C.aBin (Try.prog.underlying 3) .geq (l31.getD 4 .junk).nod.nod (I 0) fun (v34 : V) =>
 Jv (fun (v35 : V) (H36 : Hp) =>
 aCond v35.nod (
 R19 [(l31.getD 0 .junk), (l31.getD 1 .junk), (l31.getD 2 .junk), (l31.getD 3 .junk), (l31.getD 4 .junk), (l31.getD 5 .junk), (l31.getD 6 .junk)] H36) (
 C.aBin (Try.prog.underlying 3) .add (l31.getD 10 .junk).nod (I 1) fun (v39 : V) =>
 K26 [(l31.getD 0 .junk), (l31.getD 1 .junk), (l31.getD 2 .junk), (l31.getD 3 .junk), (l31.getD 4 .junk), (l31.getD 5 .junk), (l31.getD 6 .junk), (l31.getD 7 .junk), (l31.getD 8 .junk), (l31.getD 9 .junk), v39.nod] H36))
 (fun (R37 : V → Hp → Prop) =>
 aG v34.nod true (
 C.aBin (Try.prog.underlying 3) .geq (l31.getD 7 .junk).nod.nod (l31.getD 5 .junk).nod.nod fun (v38 : V) =>
 R37 v38.nod H32) (
 R37 (B false) H32)))
 (fun (R33 : List V → Hp → Prop) =>
 C.aBin (Try.prog.underlying 3) .add (l24.getD 6 .junk).nod.nod (l24.getD 10 .junk).nod.nod.nod fun (v40 : V) =>
 C.aIx 1 (l24.getD 1 .junk).nod.nod v40.nod fun (v41 : V) =>
 C.aLd 1 false false v41.nod H30 fun (v42 : V) (H43 : Hp) =>
 C.aBin (Try.prog.underlying 3) .sub v29.nod.nod v42.nod fun (v44 : V) =>
 C.aBin (Try.prog.underlying 3) .add (l24.getD 6 .junk).nod.nod (l24.getD 10 .junk).nod.nod.nod fun (v45 : V) =>
 C.aIx 1 (l24.getD 1 .junk).nod.nod v45.nod fun (v46 : V) =>
 C.aLd 1 false false v46.nod H43 fun (v47 : V) (H48 : Hp) =>
 C.aBin (Try.prog.underlying 3) .sub v29.nod.nod v47.nod fun (v49 : V) =>
 C.aBin (Try.prog.underlying 3) .mul v44.nod v49.nod fun (v50 : V) =>
 C.aBin (Try.prog.underlying 3) .add (l24.getD 7 .junk).nod.nod v50.nod fun (v51 : V) =>
 R33 [(l24.getD 0 .junk), (l24.getD 1 .junk), (l24.getD 2 .junk), (l24.getD 3 .junk), (l24.getD 4 .junk), (l24.getD 5 .junk), (l24.getD 6 .junk), v51, (l24.getD 8 .junk), (l24.getD 9 .junk), (l24.getD 10 .junk)] H48)) (
 R19 [(l24.getD 0 .junk), (l24.getD 1 .junk), (l24.getD 2 .junk), (l24.getD 3 .junk), (l24.getD 6 .junk).nod, (l24.getD 7 .junk).nod, (l24.getD 6 .junk)] H25))
 [(l21.getD 0 .junk), (l21.getD 1 .junk), (l21.getD 2 .junk), (l21.getD 3 .junk), (l21.getD 4 .junk), (l21.getD 5 .junk), (l21.getD 6 .junk), (l21.getD 7 .junk), (l21.getD 8 .junk), (l21.getD 9 .junk), (l21.getD 10 .junk)] H22)
 (fun (R23 : List V → Hp → Prop) =>
 C.aLen (l10.getD 0 .junk).nod.nod fun (v52 : V) =>
 C.aBin (Try.prog.underlying 3) .sub v52.nod (l10.getD 2 .junk).nod.nod fun (v53 : V) =>
 C.aSlc 1 (l10.getD 0 .junk).nod.nod (some v53.nod) none none fun (v54 : V) =>
 C.aLen v54.nod fun (v55 : V) =>
 R23 [(l10.getD 0 .junk), (l10.getD 1 .junk), (l10.getD 2 .junk), (l10.getD 3 .junk), (l10.getD 4 .junk), (l10.getD 5 .junk), (l10.getD 6 .junk), (I 0), v54, v55, (I 0)] H11))) (
 R [(l10.getD 4 .junk).nod, (l10.getD 5 .junk).nod, (B true)] H11))
 [(l7.getD 0 .junk), (l7.getD 1 .junk), (l7.getD 2 .junk), (l7.getD 3 .junk), (l7.getD 4 .junk), (l7.getD 5 .junk), (I 0)] H8)
 (fun (R9 : List V → Hp → Prop) =>
 R9 [(l4.getD 0 .junk), (l4.getD 1 .junk), (l4.getD 2 .junk), (l4.getD 3 .junk), (l4.getD 4 .junk), (l4.getD 5 .junk)] H5))
 (fun (R6 : List V → Hp → Prop) =>
 R6 [a0, a1, a2, a3, (I (-1)), (I 0)] H2))
theorem wf62 : (Nat.ble 4 Try.f62.ntmps && wfC an62 Try.f62.ntmps (Try.f62.body.getD .skip)) = true := by kernel_rfl
theorem tie62 (C : Cb) (a0 a1 a2 a3 : V) (H : Hp) (R : List V → Hp → Prop) : wpG Try.prog C an62 (Try.f62.body.getD .skip) (argF [a0, a1, a2, a3]) H (retG Try.prog C Try.f62 R) (fun _ _ _ => False) (retG Try.prog C Try.f62 R) = vc62 C a0 a1 a2 a3 H R := by kernel_rfl
theorem mk62 (a0 a1 a2 a3 : V) {H : Hp} {v : V} {H1 : Hp} (hd : v.Nd) (hn : H.length ≤ H1.length) (hb : H1 = H ∨ ∀ (b : Nat) (blk : Blk), H1[b]? = some blk → H[b]? = some blk ∨ BelB H1.length blk) (h : vc62 (real Try.prog) a0 a1 a2 a3 H (retF v H1)) : Ret Try.prog 62 [a0, a1, a2, a3] H v H1 :=
  ret_mk (an := an62) hm Try.call62 Try.func62 rfl wf62 hd hn hb (Eq.mpr (tie62 (real Try.prog) a0 a1 a2 a3 H (retF v H1)) h)

/- declaim/join.joined -/
def an63 : An := { imm := [], jn := [(2, [0, 1, 2, 3, 10]), (6, [0, 1, 2, 3, 10, 11, 12]), (8, [1, 2, 3, 10, 11, 12]), (9, [11])], lp := [], loud := [54], ord := [] }
def vc63 (C : Cb) (a0 a1 a2 a3 : V) (H : Hp) (R : List V → Hp → Prop) : Prop :=
 Jn (fun (l1 : List V) (H2 : Hp) =>
 C.aBin (Try.prog.underlying 3) .gtr (l1.getD 4 .junk).nod.nod (I 100000) fun (v4 : V) =>
 aCond v4.nod (
 R [(V.arr [] .full), (B false)] H2) (
 C.aMk false (I 0) 8 (l1.getD 4 .junk).nod.nod (l1.getD 4 .junk).nod.nod H2 fun (v5 : V) (H6 : Hp) =>
 Jn (fun (l7 : List V) (H8 : Hp) =>
 C.aSlc 1 (l7.getD 5 .junk).nod.nod none (some (l7.getD 6 .junk).nod.nod) (some (l7.getD 6 .junk).nod.nod) fun (v10 : V) =>
 C.aCpy 1 v10.nod (l7.getD 0 .junk).nod.nod H8 fun (v11 : V) (H12 : Hp) =>
 Jn (fun (l13 : List V) (H14 : Hp) =>
 Jn (fun (l16 : List V) (H17 : Hp) =>
 R [(l16.getD 0 .junk).nod, (B true)] H17)
 (fun (R18 : List V → Hp → Prop) =>
 C.aBin (Try.prog.underlying 3) .add (l13.getD 5 .junk).nod.nod (l13.getD 1 .junk).nod.nod fun (v19 : V) =>
 C.aSlc 1 (l13.getD 4 .junk).nod.nod (some v19.nod) (some (l13.getD 3 .junk).nod.nod) (some (l13.getD 3 .junk).nod.nod) fun (v20 : V) =>
 C.aBin (Try.prog.underlying 3) .add (l13.getD 2 .junk).nod.nod (l13.getD 1 .junk).nod.nod fun (v21 : V) =>
 C.aSlc 1 (l13.getD 0 .junk).nod.nod (some v21.nod) none none fun (v22 : V) =>
 C.aCpy 1 v20.nod v22.nod H14 fun (v23 : V) (H24 : Hp) =>
 R18 [(l13.getD 4 .junk)] H24))
 (fun (R15 : List V → Hp → Prop) =>
 C.aBin (Try.prog.underlying 3) .add (l7.getD 6 .junk).nod.nod (l7.getD 2 .junk).nod.nod fun (v25 : V) =>
 C.aBin (Try.prog.underlying 3) .add (l7.getD 6 .junk).nod.nod (l7.getD 2 .junk).nod.nod fun (v26 : V) =>
 C.aSlc 1 (l7.getD 5 .junk).nod.nod (some (l7.getD 6 .junk).nod.nod) (some v25.nod) (some v26.nod) fun (v27 : V) =>
 C.aSlc 1 (l7.getD 0 .junk).nod.nod (some (l7.getD 6 .junk).nod.nod) none none fun (v28 : V) =>
 C.aBin (Try.prog.underlying 3) .add (l7.getD 3 .junk).nod.nod (l7.getD 2 .junk).nod.nod fun (v29 : V) =>
 C.aSlc 1 (l7.getD 1 .junk).nod.nod (some (l7.getD 3 .junk).nod.nod) (some v29.nod) none fun (v30 : V) =>
 C.call 58 [v28.nod, v30.nod] H12 fun (v31 : V) (H32 : Hp) =>
 C.aCpy 1 v27.nod v31.nod H32 fun (v33 : V) (H34 : Hp) =>
 R15 [(l7.getD 1 .junk), (l7.getD 2 .junk), (l7.getD 3 .junk), (l7.getD 4 .junk), (l7.getD 5 .junk), (l7.getD 6 .junk)] H34))
 (fun (R9 : List V → Hp → Prop) =>
 C.aLen (l1.getD 0 .junk).nod.nod fun (v35 : V) =>
 C.aBin (Try.prog.underlying 3) .sub v35.nod (l1.getD 2 .junk).nod.nod fun (v36 : V) =>
 R9 [(l1.getD 0 .junk), (l1.getD 1 .junk), (l1.getD 2 .junk), (l1.getD 3 .junk), (l1.getD 4 .junk), v5, v36] H6)))
 (fun (R3 : List V → Hp → Prop) =>
 C.aLen a0.nod.nod fun (v37 : V) =>
 C.aLen a1.nod.nod fun (v38 : V) =>
 C.aBin (Try.prog.underlying 3) .add v37.nod v38.nod fun (v39 : V) =>
 C.aBin (Try.prog.underlying 3) .sub v39.nod a2.nod.nod fun (v40 : V) =>
 C.aBin (Try.prog.underlying 3) .sub v40.nod a3.nod.nod fun (v41 : V) =>
 R3 [a0, a1, a2, a3, v41] H)
theorem wf63 : (Nat.ble 4 Try.f63.ntmps && wfC an63 Try.f63.ntmps (Try.f63.body.getD .skip)) = true := by kernel_rfl
theorem tie63 (C : Cb) (a0 a1 a2 a3 : V) (H : Hp) (R : List V → Hp → Prop) : wpG Try.prog C an63 (Try.f63.body.getD .skip) (argF [a0, a1, a2, a3]) H (retG Try.prog C Try.f63 R) (fun _ _ _ => False) (retG Try.prog C Try.f63 R) = vc63 C a0 a1 a2 a3 H R := by kernel_rfl
theorem mk63 (a0 a1 a2 a3 : V) {H : Hp} {v : V} {H1 : Hp} (hd : v.Nd) (hn : H.length ≤ H1.length) (hb : H1 = H ∨ ∀ (b : Nat) (blk : Blk), H1[b]? = some blk → H[b]? = some blk ∨ BelB H1.length blk) (h : vc63 (real Try.prog) a0 a1 a2 a3 H (retF v H1)) : Ret Try.prog 63 [a0, a1, a2, a3] H v H1 :=
  ret_mk (an := an63) hm Try.call63 Try.func63 rfl wf63 hd hn hb (Eq.mpr (tie63 (real Try.prog) a0 a1 a2 a3 H (retF v H1)) h)

end Go.Proofs.Ytehjfjdknllmhaa
