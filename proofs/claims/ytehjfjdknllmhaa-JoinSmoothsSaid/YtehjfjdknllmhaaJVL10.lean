import Derived.Test.YtehjfjdknllmhaaAb23
import Derived.Test.YtehjfjdknllmhaaProg
import Derived.Test.YtehjfjdknllmhaaJV1
set_option linter.unusedVariables false
set_option maxRecDepth 20000
set_option maxHeartbeats 4000000
namespace Go.Proofs.Ytehjfjdknllmhaa
open Go Go.Ab Go.Proofs
/- declaim/declaimlaw07.JoinSmooths -/
def an10 : An := { imm := [2], jn := [(4, [1, 2, 5, 6]), (6, [1, 2, 5, 6, 7, 29]), (7, [1, 2, 5, 6, 7]), (9, [1, 2, 5, 6])], lp := [], loud := [49, 53, 56], ord := [] }
def vc10 (C : Cb) (a0 a1 : V) (H : Hp) (R : List V → Hp → Prop) : Prop :=
 C.aBx true 2 a0.nod H fun (v1 : V) (H2 : Hp) =>
 C.aLd 2 true false v1.nod H2 fun (v3 : V) (H4 : Hp) =>
 C.call 33 [v3.nod] H4 fun (v5 : V) (H6 : Hp) =>
 C.aUn .not v5.nod fun (v7 : V) =>
 aCond v7.nod (
 C.call 18 [] H6 fun (v8 : V) (H9 : Hp) =>
 R [v8] H9) (
 Jn (fun (l10 : List V) (H11 : Hp) =>
 C.aLd 2 true false (l10.getD 1 .junk).nod H11 fun (v13 : V) (H14 : Hp) =>
 C.call 30 [v13.nod] H14 fun (v15 : V) (H16 : Hp) =>
 Jn (fun (l17 : List V) (H18 : Hp) =>
 Jn (fun (l20 : List V) (H21 : Hp) =>
 C.aBin (Try.prog.underlying 25) .eql (l20.getD 3 .junk).nod.nod (I 0) fun (v23 : V) =>
 Jv (fun (v24 : V) (H25 : Hp) =>
 Jv (fun (v34 : V) (H35 : Hp) =>
 Jv (fun (v41 : V) (H42 : Hp) =>
 R [v41] H42)
 (fun (R43 : V → Hp → Prop) =>
 aG v34.nod true (
 C.call 18 [] H35 fun (v44 : V) (H45 : Hp) =>
 R43 v44.nod H45) (
 R43 (B false) H35)))
 (fun (R36 : V → Hp → Prop) =>
 aG v24.nod true (
 C.aLd 2 true false (l20.getD 2 .junk).nod H25 fun (v37 : V) (H38 : Hp) =>
 C.call 37 [v37.nod] H38 fun (v39 : V) (H40 : Hp) =>
 R36 v39.nod H40) (
 R36 (B false) H25)))
 (fun (R26 : V → Hp → Prop) =>
 aG v23.nod true (
 C.aLd 2 true false (l20.getD 2 .junk).nod H21 fun (v27 : V) (H28 : Hp) =>
 C.aLd 2 true false (l20.getD 1 .junk).nod H28 fun (v29 : V) (H30 : Hp) =>
 C.calm 44 [v29.nod, (l20.getD 0 .junk).nod.nod] H30 fun (v31 : V) =>
 C.call 31 [v27.nod, v31.nod] H30 fun (v32 : V) (H33 : Hp) =>
 R26 v32.nod H33) (
 R26 (B false) H21)))
 (fun (R22 : List V → Hp → Prop) =>
 C.aBin (Try.prog.underlying 25) .neq (l17.getD 4 .junk).nod.nod (I 0) fun (v46 : V) =>
 aCond v46.nod (
 C.aBin (Try.prog.underlying 25) .eql (l17.getD 3 .junk).nod.nod (l17.getD 4 .junk).nod.nod fun (v47 : V) =>
 Jv (fun (v48 : V) (H49 : Hp) =>
 Jv (fun (v55 : V) (H56 : Hp) =>
 R [v55] H56)
 (fun (R57 : V → Hp → Prop) =>
 aG v48.nod true (
 C.call 18 [] H49 fun (v58 : V) (H59 : Hp) =>
 R57 v58.nod H59) (
 R57 (B false) H49)))
 (fun (R50 : V → Hp → Prop) =>
 aG v47.nod true (
 C.aLd 2 true false (l17.getD 2 .junk).nod H18 fun (v51 : V) (H52 : Hp) =>
 C.call 29 [v51.nod] H52 fun (v53 : V) (H54 : Hp) =>
 R50 v53.nod H54) (
 R50 (B false) H18))) (
 R22 [(l17.getD 0 .junk), (l17.getD 1 .junk), (l17.getD 2 .junk), (l17.getD 3 .junk)] H18)))
 (fun (R19 : List V → Hp → Prop) =>
 Jn (fun (l60 : List V) (H61 : Hp) =>
 aCond (l60.getD 5 .junk).nod (
 R19 [(l60.getD 0 .junk), (l60.getD 1 .junk), (l60.getD 2 .junk), (l60.getD 3 .junk), (I 2)] H61) (
 R19 [(l60.getD 0 .junk), (l60.getD 1 .junk), (l60.getD 2 .junk), (l60.getD 3 .junk), (l60.getD 4 .junk)] H61))
 (fun (R62 : List V → Hp → Prop) =>
 C.aBin (Try.prog.underlying 25) .eql v15.nod.nod (I 0) fun (v63 : V) =>
 Jv (fun (v64 : V) (H65 : Hp) =>
 R62 [(l10.getD 0 .junk), (l10.getD 1 .junk), (l10.getD 2 .junk), (l10.getD 3 .junk), v15, v64] H65)
 (fun (R66 : V → Hp → Prop) =>
 aG v63.nod true (
 C.aBin (Try.prog.underlying 3) .lss (l10.getD 0 .junk).nod.nod (I 1) fun (v67 : V) =>
 aG v67.nod false (
 C.aBin (Try.prog.underlying 3) .gtr (l10.getD 0 .junk).nod.nod (I 1000) fun (v68 : V) =>
 R66 v68.nod.nod H16) (
 R66 (B true) H16)) (
 UD = UD ∧
 UD = UD ∧
 R66 (B false) H16)))))
 (fun (R12 : List V → Hp → Prop) =>
 C.aLd 2 true false v1.nod H6 fun (v69 : V) (H70 : Hp) =>
 C.call 43 [v69.nod, a1.nod.nod] H70 fun (v71 : V) (H72 : Hp) =>
 C.aExt 0 v71.nod.nod fun (v73 : V) =>
 C.aExt 1 v71.nod.nod fun (v74 : V) =>
 C.aBx false 2 (V.agg [(V.arr [] .full), (V.arr [] .full)]) H72 fun (v75 : V) (H76 : Hp) =>
 C.aSt 2 v75.nod v73 H76 fun (v77 : V) (H78 : Hp) =>
 R12 [a1, v1, v75, v74] H78))
theorem wf10 : (Nat.ble 2 Try.f10.ntmps && wfC an10 Try.f10.ntmps (Try.f10.body.getD .skip)) = true := by kernel_rfl
theorem tie10 (C : Cb) (a0 a1 : V) (H : Hp) (R : List V → Hp → Prop) : wpG Try.prog C an10 (Try.f10.body.getD .skip) (argF [a0, a1]) H (retG Try.prog C Try.f10 R) (fun _ _ _ => False) (retG Try.prog C Try.f10 R) = vc10 C a0 a1 H R := by kernel_rfl
theorem mk10 (a0 a1 : V) {H : Hp} {v : V} {H1 : Hp} (hd : v.Nd) (hn : H.length ≤ H1.length) (hb : H1 = H ∨ ∀ (b : Nat) (blk : Blk), H1[b]? = some blk → H[b]? = some blk ∨ BelB H1.length blk) (h : vc10 (real Try.prog) a0 a1 H (retF v H1)) : Ret Try.prog 10 [a0, a1] H v H1 :=
  ret_mk (an := an10) hm Try.call10 Try.func10 rfl wf10 hd hn hb (Eq.mpr (tie10 (real Try.prog) a0 a1 H (retF v H1)) h)
theorem mko10 (a0 a1 : V) {H : Hp} {xs : List V} {H1 : Hp} (hn : H.length ≤ H1.length) (hb : H1 = H ∨ ∀ (b : Nat) (blk : Blk), H1[b]? = some blk → H[b]? = some blk ∨ BelB H1.length blk) (h : vc10 (real Try.prog) a0 a1 H (retO xs H1)) : Ret Try.prog 10 [a0, a1] H (.arr xs .own) H1 :=
  ret_mko (an := an10) (t := 4) hm Try.call10 Try.func10 rfl wf10 rfl hn hb (Eq.mpr (tie10 (real Try.prog) a0 a1 H (retO xs H1)) h)

end Go.Proofs.Ytehjfjdknllmhaa
