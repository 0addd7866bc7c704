import Derived.Test.YtehjfjdknllmhaaAb23
import Derived.Test.YtehjfjdknllmhaaProg
import Derived.Test.YtehjfjdknllmhaaJV1
set_option linter.unusedVariables false
set_option maxRecDepth 20000
set_option maxHeartbeats 4000000
namespace Go.Proofs.Ytehjfjdknllmhaa
open Go Go.Ab Go.Proofs
/- declaim/declaimlaw07.JoinMismatches -/
def an12 : An := { imm := [], jn := [(2, [0, 1, 2, 3, 21]), (4, [0, 1, 2, 3, 9, 10]), (6, [0, 1, 2, 3, 9, 10, 11, 12, 13]), (7, [0, 1, 2, 3, 9, 10, 11, 12, 13, 51]), (8, [0, 1, 2, 3, 9, 10, 11, 12, 13]), (10, [0, 1, 2, 3, 9, 10, 11, 12])], lp := [], loud := [], ord := [] }
def vc12 (C : Cb) (a0 a1 a2 a3 : V) (H : Hp) (R : List V → Hp → Prop) : Prop :=
 Jn (fun (l1 : List V) (H2 : Hp) =>
 aCond (l1.getD 4 .junk).nod (
 C.call 18 [] H2 fun (v4 : V) (H5 : Hp) =>
 R [v4] H5) (
 Jn (fun (l6 : List V) (H7 : Hp) =>
 C.call 46 [(l6.getD 0 .junk).nod.nod, (l6.getD 1 .junk).nod.nod, (l6.getD 2 .junk).nod.nod, (l6.getD 3 .junk).nod.nod] H7 fun (v9 : V) (H10 : Hp) =>
 C.aExt 0 v9.nod.nod fun (v11 : V) =>
 C.aExt 1 v9.nod.nod fun (v12 : V) =>
 Jn (fun (l13 : List V) (H14 : Hp) =>
 Jn (fun (l16 : List V) (H17 : Hp) =>
 Jn (fun (l19 : List V) (H20 : Hp) =>
 C.aBin (Try.prog.underlying 25) .eql (l19.getD 5 .junk).nod.nod (I 0) fun (v22 : V) =>
 Jv (fun (v23 : V) (H24 : Hp) =>
 Jv (fun (v27 : V) (H28 : Hp) =>
 Jv (fun (v33 : V) (H34 : Hp) =>
 Jv (fun (v40 : V) (H41 : Hp) =>
 R [v40] H41)
 (fun (R42 : V → Hp → Prop) =>
 aG v33.nod true (
 C.call 18 [] H34 fun (v43 : V) (H44 : Hp) =>
 R42 v43.nod H44) (
 R42 (B false) H34)))
 (fun (R35 : V → Hp → Prop) =>
 aG v27.nod true (
 C.call 48 [(l19.getD 0 .junk).nod.nod, (l19.getD 1 .junk).nod.nod, (l19.getD 2 .junk).nod.nod, (l19.getD 3 .junk).nod.nod] H28 fun (v36 : V) (H37 : Hp) =>
 C.call 21 [(l19.getD 6 .junk).nod.nod, v36.nod] H37 fun (v38 : V) (H39 : Hp) =>
 R35 v38.nod H39) (
 R35 (B false) H28)))
 (fun (R29 : V → Hp → Prop) =>
 aG v23.nod true (
 C.call 40 [(l19.getD 0 .junk).nod.nod, (l19.getD 1 .junk).nod.nod, (l19.getD 2 .junk).nod.nod, (l19.getD 3 .junk).nod.nod] H24 fun (v30 : V) (H31 : Hp) =>
 C.aBin (Try.prog.underlying 3) .eql (l19.getD 4 .junk).nod.nod v30.nod fun (v32 : V) =>
 R29 v32.nod H31) (
 R29 (B false) H24)))
 (fun (R25 : V → Hp → Prop) =>
 aG v22.nod true (
 C.aBin (Try.prog.underlying 25) .eql (l19.getD 7 .junk).nod.nod (I 0) fun (v26 : V) =>
 R25 v26.nod H20) (
 R25 (B false) H20)))
 (fun (R21 : List V → Hp → Prop) =>
 C.aBin (Try.prog.underlying 25) .neq (l16.getD 8 .junk).nod.nod (I 0) fun (v45 : V) =>
 aCond v45.nod (
 C.aBin (Try.prog.underlying 25) .eql (l16.getD 5 .junk).nod.nod (l16.getD 8 .junk).nod.nod fun (v46 : V) =>
 Jv (fun (v47 : V) (H48 : Hp) =>
 Jv (fun (v51 : V) (H52 : Hp) =>
 Jv (fun (v55 : V) (H56 : Hp) =>
 Jv (fun (v60 : V) (H61 : Hp) =>
 R [v60] H61)
 (fun (R62 : V → Hp → Prop) =>
 aG v55.nod true (
 C.call 18 [] H56 fun (v63 : V) (H64 : Hp) =>
 R62 v63.nod H64) (
 R62 (B false) H56)))
 (fun (R57 : V → Hp → Prop) =>
 aG v51.nod true (
 C.aLen (l16.getD 6 .junk).nod.nod fun (v58 : V) =>
 C.aBin (Try.prog.underlying 3) .eql v58.nod (I 0) fun (v59 : V) =>
 R57 v59.nod H52) (
 R57 (B false) H52)))
 (fun (R53 : V → Hp → Prop) =>
 aG v47.nod true (
 C.aBin (Try.prog.underlying 3) .eql (l16.getD 4 .junk).nod.nod (I 0) fun (v54 : V) =>
 R53 v54.nod H48) (
 R53 (B false) H48)))
 (fun (R49 : V → Hp → Prop) =>
 aG v46.nod true (
 C.aBin (Try.prog.underlying 25) .eql (l16.getD 7 .junk).nod.nod (l16.getD 8 .junk).nod.nod fun (v50 : V) =>
 R49 v50.nod H17) (
 R49 (B false) H17))) (
 R21 [(l16.getD 0 .junk), (l16.getD 1 .junk), (l16.getD 2 .junk), (l16.getD 3 .junk), (l16.getD 4 .junk), (l16.getD 5 .junk), (l16.getD 6 .junk), (l16.getD 7 .junk)] H17)))
 (fun (R18 : List V → Hp → Prop) =>
 Jn (fun (l65 : List V) (H66 : Hp) =>
 aCond (l65.getD 9 .junk).nod (
 R18 [(l65.getD 0 .junk), (l65.getD 1 .junk), (l65.getD 2 .junk), (l65.getD 3 .junk), (l65.getD 4 .junk), (l65.getD 5 .junk), (l65.getD 6 .junk), (l65.getD 7 .junk), (I 2)] H66) (
 R18 [(l65.getD 0 .junk), (l65.getD 1 .junk), (l65.getD 2 .junk), (l65.getD 3 .junk), (l65.getD 4 .junk), (l65.getD 5 .junk), (l65.getD 6 .junk), (l65.getD 7 .junk), (l65.getD 8 .junk)] H66))
 (fun (R67 : List V → Hp → Prop) =>
 C.aBin (Try.prog.underlying 25) .eql (l13.getD 8 .junk).nod.nod (I 0) fun (v68 : V) =>
 Jv (fun (v69 : V) (H70 : Hp) =>
 R67 [(l13.getD 0 .junk), (l13.getD 1 .junk), (l13.getD 2 .junk), (l13.getD 3 .junk), (l13.getD 4 .junk), (l13.getD 5 .junk), (l13.getD 6 .junk), (l13.getD 7 .junk), (l13.getD 8 .junk), v69] H70)
 (fun (R71 : V → Hp → Prop) =>
 aG v68.nod true (
 C.call 45 [(l13.getD 0 .junk).nod.nod, (l13.getD 1 .junk).nod.nod, (l13.getD 2 .junk).nod.nod, (l13.getD 3 .junk).nod.nod] H14 fun (v72 : V) (H73 : Hp) =>
 C.aUn .not v72.nod fun (v74 : V) =>
 R71 v74.nod H73) (
 R71 (B false) H14)))))
 (fun (R15 : List V → Hp → Prop) =>
 C.call 20 [(l6.getD 0 .junk).nod.nod, (l6.getD 1 .junk).nod.nod] H10 fun (v75 : V) (H76 : Hp) =>
 R15 [(l6.getD 0 .junk), (l6.getD 1 .junk), (l6.getD 2 .junk), (l6.getD 3 .junk), (l6.getD 4 .junk), (l6.getD 5 .junk), v11, v12, v75] H76))
 (fun (R8 : List V → Hp → Prop) =>
 C.call 41 [(l1.getD 0 .junk).nod.nod, (l1.getD 1 .junk).nod.nod, (l1.getD 2 .junk).nod.nod, (l1.getD 3 .junk).nod.nod] H2 fun (v77 : V) (H78 : Hp) =>
 C.aExt 0 v77.nod.nod fun (v79 : V) =>
 C.aExt 1 v77.nod.nod fun (v80 : V) =>
 R8 [(l1.getD 0 .junk), (l1.getD 1 .junk), (l1.getD 2 .junk), (l1.getD 3 .junk), v79, v80] H78)))
 (fun (R3 : List V → Hp → Prop) =>
 C.call 17 [a0.nod.nod] H fun (v81 : V) (H82 : Hp) =>
 C.aUn .not v81.nod fun (v83 : V) =>
 Jv (fun (v84 : V) (H85 : Hp) =>
 R3 [a0, a1, a2, a3, v84] H85)
 (fun (R86 : V → Hp → Prop) =>
 aG v83.nod false (
 C.call 17 [a1.nod.nod] H82 fun (v87 : V) (H88 : Hp) =>
 C.aUn .not v87.nod fun (v89 : V) =>
 R86 v89.nod H88) (
 R86 (B true) H82)))
theorem wf12 : (Nat.ble 4 Try.f12.ntmps && wfC an12 Try.f12.ntmps (Try.f12.body.getD .skip)) = true := by kernel_rfl
theorem tie12 (C : Cb) (a0 a1 a2 a3 : V) (H : Hp) (R : List V → Hp → Prop) : wpG Try.prog C an12 (Try.f12.body.getD .skip) (argF [a0, a1, a2, a3]) H (retG Try.prog C Try.f12 R) (fun _ _ _ => False) (retG Try.prog C Try.f12 R) = vc12 C a0 a1 a2 a3 H R := by kernel_rfl
theorem mk12 (a0 a1 a2 a3 : V) {H : Hp} {v : V} {H1 : Hp} (hd : v.Nd) (hn : H.length ≤ H1.length) (hb : H1 = H ∨ ∀ (b : Nat) (blk : Blk), H1[b]? = some blk → H[b]? = some blk ∨ BelB H1.length blk) (h : vc12 (real Try.prog) a0 a1 a2 a3 H (retF v H1)) : Ret Try.prog 12 [a0, a1, a2, a3] H v H1 :=
  ret_mk (an := an12) hm Try.call12 Try.func12 rfl wf12 hd hn hb (Eq.mpr (tie12 (real Try.prog) a0 a1 a2 a3 H (retF v H1)) h)
theorem mko12 (a0 a1 a2 a3 : V) {H : Hp} {xs : List V} {H1 : Hp} (hn : H.length ≤ H1.length) (hb : H1 = H ∨ ∀ (b : Nat) (blk : Blk), H1[b]? = some blk → H[b]? = some blk ∨ BelB H1.length blk) (h : vc12 (real Try.prog) a0 a1 a2 a3 H (retO xs H1)) : Ret Try.prog 12 [a0, a1, a2, a3] H (.arr xs .own) H1 :=
  ret_mko (an := an12) (t := 8) hm Try.call12 Try.func12 rfl wf12 rfl hn hb (Eq.mpr (tie12 (real Try.prog) a0 a1 a2 a3 H (retO xs H1)) h)

end Go.Proofs.Ytehjfjdknllmhaa
