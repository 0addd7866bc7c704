/- The law TractEnergy of the given program returns true for any play (a shape, feeds, areas), and leaves all as it was. No condition. -/
import Derived.Test.YtpielcbpfbajlaaP6
import Derived.Test.YtpielcbpfbajlaaProg
import Derived.Test.YtpielcbpfbajlaaRows
set_option linter.unusedVariables false
set_option maxRecDepth 20000
set_option maxHeartbeats 4000000
namespace Go.Proofs.Ytpielcbpfbajlaa
open Go Go.Ab Go.Proofs
def an10 : An := { imm := [1, 10, 14], jn := [(2, [1, 23]), (5, [1, 3, 41]), (10, [1, 3, 5, 6, 7, 8]), (13, [1, 3, 5, 6, 7, 8, 9, 80]), (14, [1, 3, 5, 6, 7, 8, 9]), (15, [1, 3, 5, 6, 7, 8, 94]), (18, [1, 3, 5, 6, 7, 8, 9, 11]), (24, [1, 3, 5, 6, 7, 8, 9, 12, 13]), (26, [1, 3, 5, 6, 7, 8, 9, 12, 13, 14]), (28, [1, 3, 5, 6, 7, 8, 9, 12, 13, 14]), (30, [1, 3, 5, 6, 7, 8, 169])], lp := [(9, [1, 3, 5, 6, 7, 8]), (23, [1, 3, 5, 6, 7, 8, 9, 12, 13])], loud := [78], ord := [] }
def vc10 (C : Cb) (a0 : V) (H : Hp) (R : List V → Hp → Prop) : Prop :=
 C.aBx true 9 a0.nod H fun (v1 : V) (H2 : Hp) =>
 Jn (fun (l3 : List V) (H4 : Hp) =>
 aCond (l3.getD 1 .junk).nod (
 C.callE 17 [] H4 fun (v6 : V) (H7 : Hp) =>
 R [v6] H7) (
 C.aFA 0 6 true (l3.getD 0 .junk).nod fun (v8 : V) =>
 C.aLd 6 true false v8.nod H4 fun (v9 : V) (H10 : Hp) =>
 C.callE 25 [v9.nod] H10 fun (v11 : V) (H12 : Hp) =>
 C.aExt 0 v11.nod.nod fun (v13 : V) =>
 C.aExt 1 v11.nod.nod fun (v14 : V) =>
 Jn (fun (l15 : List V) (H16 : Hp) =>
 aCond (l15.getD 2 .junk).nod (
 R [(B false)] H16) (
 C.aFA 0 6 true (l15.getD 0 .junk).nod fun (v18 : V) =>
 C.aFA 0 1 false v18.nod fun (v19 : V) =>
 C.aLd 1 false false v19.nod H16 fun (v20 : V) (H21 : Hp) =>
 LoopA (fun (l22 : List V) (H23 : Hp) (K24 : List V → Hp → Prop) =>
 C.aFA 6 1 false (l22.getD 0 .junk).nod fun (v25 : V) =>
 C.aLd 1 false false v25.nod H23 fun (v26 : V) (H27 : Hp) =>
 C.aLen v26.nod fun (v28 : V) =>
 C.aBin (Try.prog.underlying 3) .lss (l22.getD 5 .junk).nod.nod v28.nod fun (v29 : V) =>
 aCond v29.nod (
 Jn (fun (l30 : List V) (H31 : Hp) =>
 C.aBin (Try.prog.underlying 3) .add (l30.getD 5 .junk).nod.nod (I 1) fun (v33 : V) =>
 K24 [(l30.getD 0 .junk), (l30.getD 1 .junk), (l30.getD 2 .junk), (l30.getD 3 .junk), (l30.getD 4 .junk), v33] H31)
 (fun (R32 : List V → Hp → Prop) =>
 C.callE 27 [(l22.getD 1 .junk).nod.nod] H27 fun (v34 : V) (H35 : Hp) =>
 Jn (fun (l36 : List V) (H37 : Hp) =>
 Jn (fun (l39 : List V) (H40 : Hp) =>
 aCond (l39.getD 6 .junk).nod (
 R [(B false)] H40) (
 C.callE 27 [(l39.getD 1 .junk).nod.nod] H40 fun (v42 : V) (H43 : Hp) =>
 Jn (fun (l44 : List V) (H45 : Hp) =>
 C.aBin (Try.prog.underlying 27) .neq (l44.getD 7 .junk).nod.nod (I 0) fun (v47 : V) =>
 aCond v47.nod (
 C.callE 27 [(l44.getD 1 .junk).nod.nod] H45 fun (v48 : V) (H49 : Hp) =>
 C.aBin (Try.prog.underlying 3) .neq v48.nod (l44.getD 6 .junk).nod.nod fun (v50 : V) =>
 aCond v50.nod (
 R [(B false)] H49) (
 R32 [(l44.getD 0 .junk), (l44.getD 1 .junk), (l44.getD 2 .junk), (l44.getD 3 .junk), (l44.getD 4 .junk), (l44.getD 5 .junk)] H49)) (
 LoopA (fun (l51 : List V) (H52 : Hp) (K53 : List V → Hp → Prop) =>
 C.aFA 6 1 false (l51.getD 0 .junk).nod fun (v54 : V) =>
 C.aLd 1 false false v54.nod H52 fun (v55 : V) (H56 : Hp) =>
 C.aIx 1 v55.nod (l51.getD 5 .junk).nod.nod fun (v57 : V) =>
 C.aLd 1 false false v57.nod H56 fun (v58 : V) (H59 : Hp) =>
 C.aLen v58.nod fun (v60 : V) =>
 C.aBin (Try.prog.underlying 3) .lss (l51.getD 8 .junk).nod.nod v60.nod fun (v61 : V) =>
 aCond v61.nod (
 Jn (fun (l62 : List V) (H63 : Hp) =>
 C.aBin (Try.prog.underlying 3) .add (l62.getD 8 .junk).nod.nod (I 1) fun (v65 : V) =>
 K53 [(l62.getD 0 .junk), (l62.getD 1 .junk), (l62.getD 2 .junk), (l62.getD 3 .junk), (l62.getD 4 .junk), (l62.getD 5 .junk), (l62.getD 6 .junk), (l62.getD 7 .junk), v65] H63)
 (fun (R64 : List V → Hp → Prop) =>
 Jn (fun (l66 : List V) (H67 : Hp) =>
 C.aFA 1 1 false (l66.getD 9 .junk).nod fun (v69 : V) =>
 C.aLd 1 false false v69.nod H67 fun (v70 : V) (H71 : Hp) =>
 C.aFA 1 1 false (l66.getD 9 .junk).nod fun (v72 : V) =>
 C.aLd 1 false false v72.nod H71 fun (v73 : V) (H74 : Hp) =>
 C.aUn .neg v73.nod fun (v75 : V) =>
 C.aMM true [v70.nod, v75.nod] fun (v76 : V) =>
 C.aBin (Try.prog.underlying 3) .add (l66.getD 2 .junk).nod.nod v76.nod fun (v77 : V) =>
 Jn (fun (l78 : List V) (H79 : Hp) =>
 Jv (fun (v81 : V) (H82 : Hp) =>
 R64 [(l78.getD 0 .junk), (l78.getD 1 .junk), (l78.getD 2 .junk), (l78.getD 3 .junk), (l78.getD 4 .junk), (l78.getD 5 .junk), (l78.getD 6 .junk), v81, (l78.getD 8 .junk)] H82)
 (fun (R83 : V → Hp → Prop) =>
 aG (l78.getD 7 .junk).nod.nod false (
 C.aFA 1 1 false (l78.getD 9 .junk).nod fun (v84 : V) =>
 C.aLd 1 false false v84.nod H79 fun (v85 : V) (H86 : Hp) =>
 C.aBin (Try.prog.underlying 3) .neq v85.nod (I 0) fun (v87 : V) =>
 R83 v87.nod H86) (
 R83 (B true) H79)))
 (fun (R80 : List V → Hp → Prop) =>
 C.aFA 0 1 false (l66.getD 9 .junk).nod fun (v88 : V) =>
 C.aLd 1 false false v88.nod H74 fun (v89 : V) (H90 : Hp) =>
 C.aIx 1 (l66.getD 4 .junk).nod.nod v89.nod fun (v91 : V) =>
 C.aLd 1 false false v91.nod H90 fun (v92 : V) (H93 : Hp) =>
 C.aMM true [(l66.getD 3 .junk).nod.nod, v92.nod] fun (v94 : V) =>
 R80 [(l66.getD 0 .junk), (l66.getD 1 .junk), v77, v94, (l66.getD 4 .junk), (l66.getD 5 .junk), (l66.getD 6 .junk), (l66.getD 7 .junk), (l66.getD 8 .junk), (l66.getD 9 .junk)] H93))
 (fun (R68 : List V → Hp → Prop) =>
 C.aFA 6 1 false (l51.getD 0 .junk).nod fun (v95 : V) =>
 C.aLd 1 false false v95.nod H59 fun (v96 : V) (H97 : Hp) =>
 C.aIx 1 v96.nod (l51.getD 5 .junk).nod.nod fun (v98 : V) =>
 C.aLd 1 false false v98.nod H97 fun (v99 : V) (H100 : Hp) =>
 C.aIx 2 v99.nod (l51.getD 8 .junk).nod.nod fun (v101 : V) =>
 C.aLd 2 true false v101.nod H100 fun (v102 : V) (H103 : Hp) =>
 C.aBx true 2 v102.nod H103 fun (v104 : V) (H105 : Hp) =>
 R68 [(l51.getD 0 .junk), (l51.getD 1 .junk), (l51.getD 2 .junk), (l51.getD 3 .junk), (l51.getD 4 .junk), (l51.getD 5 .junk), (l51.getD 6 .junk), (l51.getD 7 .junk), (l51.getD 8 .junk), v104] H105))) (
 Jn (fun (l106 : List V) (H107 : Hp) =>
 aCond (l106.getD 6 .junk).nod (
 R [(B false)] H107) (
 R32 [(l106.getD 0 .junk), (l106.getD 1 .junk), (l106.getD 2 .junk), (l106.getD 3 .junk), (l106.getD 4 .junk), (l106.getD 5 .junk)] H107))
 (fun (R108 : List V → Hp → Prop) =>
 C.aUn .not (l51.getD 7 .junk).nod.nod fun (v109 : V) =>
 Jv (fun (v110 : V) (H111 : Hp) =>
 Jv (fun (v116 : V) (H117 : Hp) =>
 R108 [(l51.getD 0 .junk), (l51.getD 1 .junk), (l51.getD 2 .junk), (l51.getD 3 .junk), (l51.getD 4 .junk), (l51.getD 5 .junk), v116] H117)
 (fun (R118 : V → Hp → Prop) =>
 aG v110.nod false (
 C.callE 27 [(l51.getD 1 .junk).nod.nod] H111 fun (v119 : V) (H120 : Hp) =>
 C.aBin (Try.prog.underlying 3) .mul (l51.getD 2 .junk).nod.nod (l51.getD 2 .junk).nod.nod fun (v121 : V) =>
 C.aBin (Try.prog.underlying 3) .mul v121.nod (l51.getD 3 .junk).nod.nod fun (v122 : V) =>
 C.aBin (Try.prog.underlying 3) .gtr v119.nod v122.nod fun (v123 : V) =>
 R118 v123.nod H120) (
 R118 (B true) H111)))
 (fun (R112 : V → Hp → Prop) =>
 aG v109.nod true (
 C.callE 27 [(l51.getD 1 .junk).nod.nod] H59 fun (v113 : V) (H114 : Hp) =>
 C.aBin (Try.prog.underlying 3) .gtr v113.nod (l51.getD 6 .junk).nod.nod fun (v115 : V) =>
 R112 v115.nod H114) (
 R112 (B false) H59)))))
 [(l44.getD 0 .junk), (l44.getD 1 .junk), (l44.getD 2 .junk), (l44.getD 3 .junk), (l44.getD 4 .junk), (l44.getD 5 .junk), (l44.getD 6 .junk), (B false), (I 0)] H45))
 (fun (R46 : List V → Hp → Prop) =>
 C.aFA 6 1 false (l39.getD 0 .junk).nod fun (v124 : V) =>
 C.aLd 1 false false v124.nod H43 fun (v125 : V) (H126 : Hp) =>
 C.aIx 1 v125.nod (l39.getD 5 .junk).nod.nod fun (v127 : V) =>
 C.aLd 1 false false v127.nod H126 fun (v128 : V) (H129 : Hp) =>
 C.callE 26 [(l39.getD 1 .junk).nod.nod, v128.nod] H129 fun (v130 : V) (H131 : Hp) =>
 C.aExt 0 v130.nod.nod fun (v132 : V) =>
 C.aExt 1 v130.nod.nod fun (v133 : V) =>
 C.aBx true 2 v132.nod H131 fun (v134 : V) (H135 : Hp) =>
 R46 [(l39.getD 0 .junk), (l39.getD 1 .junk), (l39.getD 2 .junk), (l39.getD 3 .junk), (l39.getD 4 .junk), (l39.getD 5 .junk), v42, v133] H135)))
 (fun (R41 : List V → Hp → Prop) =>
 C.callE 27 [(l36.getD 1 .junk).nod.nod] H37 fun (v136 : V) (H137 : Hp) =>
 C.aBin (Try.prog.underlying 3) .gtr v136.nod (l36.getD 6 .junk).nod.nod fun (v138 : V) =>
 Jv (fun (v139 : V) (H140 : Hp) =>
 R41 [(l36.getD 0 .junk), (l36.getD 1 .junk), (l36.getD 2 .junk), (l36.getD 3 .junk), (l36.getD 4 .junk), (l36.getD 5 .junk), v139] H140)
 (fun (R141 : V → Hp → Prop) =>
 aG v138.nod false (
 C.callE 27 [(l36.getD 1 .junk).nod.nod] H137 fun (v142 : V) (H143 : Hp) =>
 C.aBin (Try.prog.underlying 3) .lss v142.nod (I 0) fun (v144 : V) =>
 R141 v144.nod H143) (
 R141 (B true) H137))))
 (fun (R38 : List V → Hp → Prop) =>
 Jn (fun (l145 : List V) (H146 : Hp) =>
 aCond (l145.getD 7 .junk).nod (
 C.aFA 7 1 false (l145.getD 0 .junk).nod fun (v148 : V) =>
 C.aLd 1 false false v148.nod H146 fun (v149 : V) (H150 : Hp) =>
 C.aIx 1 v149.nod (l145.getD 5 .junk).nod.nod fun (v151 : V) =>
 C.aLd 1 false false v151.nod H150 fun (v152 : V) (H153 : Hp) =>
 R38 [(l145.getD 0 .junk), (l145.getD 1 .junk), (l145.getD 2 .junk), (l145.getD 3 .junk), v152, (l145.getD 5 .junk), (l145.getD 6 .junk)] H153) (
 R38 [(l145.getD 0 .junk), (l145.getD 1 .junk), (l145.getD 2 .junk), (l145.getD 3 .junk), (l145.getD 4 .junk), (l145.getD 5 .junk), (l145.getD 6 .junk)] H146))
 (fun (R147 : List V → Hp → Prop) =>
 C.aFA 7 1 false (l22.getD 0 .junk).nod fun (v154 : V) =>
 C.aLd 1 false false v154.nod H35 fun (v155 : V) (H156 : Hp) =>
 C.aLen v155.nod fun (v157 : V) =>
 C.aBin (Try.prog.underlying 3) .lss (l22.getD 5 .junk).nod.nod v157.nod fun (v158 : V) =>
 Jv (fun (v159 : V) (H160 : Hp) =>
 Jv (fun (v167 : V) (H168 : Hp) =>
 R147 [(l22.getD 0 .junk), (l22.getD 1 .junk), (l22.getD 2 .junk), (l22.getD 3 .junk), (l22.getD 4 .junk), (l22.getD 5 .junk), v34, v167] H168)
 (fun (R169 : V → Hp → Prop) =>
 aG v159.nod true (
 C.aFA 7 1 false (l22.getD 0 .junk).nod fun (v170 : V) =>
 C.aLd 1 false false v170.nod H160 fun (v171 : V) (H172 : Hp) =>
 C.aIx 1 v171.nod (l22.getD 5 .junk).nod.nod fun (v173 : V) =>
 C.aLd 1 false false v173.nod H172 fun (v174 : V) (H175 : Hp) =>
 C.aFA 8 1 false (l22.getD 0 .junk).nod fun (v176 : V) =>
 C.aLd 1 false false v176.nod H175 fun (v177 : V) (H178 : Hp) =>
 C.aIx 1 v177.nod (l22.getD 5 .junk).nod.nod fun (v179 : V) =>
 C.aLd 1 false false v179.nod H178 fun (v180 : V) (H181 : Hp) =>
 C.call 40 [(l22.getD 1 .junk).nod.nod, v174.nod, v180.nod] H181 fun (v182 : V) (H183 : Hp) =>
 C.aBin (Try.prog.underlying 27) .eql v182.nod (I 0) fun (v184 : V) =>
 R169 v184.nod H183) (
 R169 (B false) H160)))
 (fun (R161 : V → Hp → Prop) =>
 aG v158.nod true (
 C.aFA 8 1 false (l22.getD 0 .junk).nod fun (v162 : V) =>
 C.aLd 1 false false v162.nod H156 fun (v163 : V) (H164 : Hp) =>
 C.aLen v163.nod fun (v165 : V) =>
 C.aBin (Try.prog.underlying 3) .lss (l22.getD 5 .junk).nod.nod v165.nod fun (v166 : V) =>
 R161 v166.nod H164) (
 R161 (B false) H156)))))) (
 C.callE 17 [] H27 fun (v185 : V) (H186 : Hp) =>
 R [v185] H186))
 [(l15.getD 0 .junk), (l15.getD 1 .junk), (I 0), (I 0), v20, (I 0)] H21))
 (fun (R17 : List V → Hp → Prop) =>
 C.aBin (Try.prog.underlying 27) .neq v14.nod.nod (I 0) fun (v187 : V) =>
 Jv (fun (v188 : V) (H189 : Hp) =>
 Jv (fun (v192 : V) (H193 : Hp) =>
 R17 [(l3.getD 0 .junk), v13, v192] H193)
 (fun (R194 : V → Hp → Prop) =>
 aG v188.nod false (
 C.callE 27 [v13.nod.nod] H189 fun (v195 : V) (H196 : Hp) =>
 C.aBin (Try.prog.underlying 3) .neq v195.nod (I 0) fun (v197 : V) =>
 R194 v197.nod H196) (
 R194 (B true) H189)))
 (fun (R190 : V → Hp → Prop) =>
 aG v187.nod false (
 C.aNilP (Try.prog.underlying 41) .eql v13.nod.nod fun (v191 : V) =>
 R190 v191.nod H12) (
 R190 (B true) H12)))))
 (fun (R5 : List V → Hp → Prop) =>
 C.aLd 9 true false v1.nod H2 fun (v198 : V) (H199 : Hp) =>
 C.callE 24 [v198.nod] H199 fun (v200 : V) (H201 : Hp) =>
 C.aUn .not v200.nod fun (v202 : V) =>
 Jv (fun (v203 : V) (H204 : Hp) =>
 R5 [v1, v203] H204)
 (fun (R205 : V → Hp → Prop) =>
 aG v202.nod false (
 C.aFA 0 6 true v1.nod fun (v206 : V) =>
 C.aLd 6 true false v206.nod H201 fun (v207 : V) (H208 : Hp) =>
 C.callE 19 [v207.nod] H208 fun (v209 : V) (H210 : Hp) =>
 C.aUn .not v209.nod fun (v211 : V) =>
 R205 v211.nod H210) (
 R205 (B true) H201)))
theorem wf10 : (Nat.ble 1 Try.f10.ntmps && wfC an10 Try.f10.ntmps (Try.f10.body.getD .skip)) = true := by kernel_rfl
theorem tie10 (C : Cb) (a0 : V) (H : Hp) (R : List V → Hp → Prop) : wpG Try.prog C an10 (Try.f10.body.getD .skip) (argF [a0]) H (retG Try.prog C Try.f10 R) (fun _ _ _ => False) (retG Try.prog C Try.f10 R) = vc10 C a0 H R := by kernel_rfl
theorem mk10 (a0 : V) {H : Hp} {v : V} {H1 : Hp} (hd : v.Nd) (hn : H.length ≤ H1.length) (hb : H1 = H ∨ ∀ (b : Nat) (blk : Blk), H1[b]? = some blk → H[b]? = some blk ∨ BelB H1.length blk) (h : vc10 (real Try.prog) a0 H (retF v H1)) : Ret Try.prog 10 [a0] H v H1 :=
  ret_mk (an := an10) hm Try.call10 Try.func10 rfl wf10 hd hn hb (Eq.mpr (tie10 (real Try.prog) a0 H (retF v H1)) h)
theorem mkE10 (a0 : V) {H : Hp} {Q : V → Hp → Prop} (h : vc10 (real Try.prog) a0 H (retW Q)) : RetE Try.prog 10 [a0] H Q :=
  retE_mk (an := an10) hm Try.call10 Try.func10 rfl wf10 (Eq.mpr (tie10 (real Try.prog) a0 H (retW Q)) h)
theorem mko10 (a0 : V) {H : Hp} {xs : List V} {H1 : Hp} (hn : H.length ≤ H1.length) (hb : H1 = H ∨ ∀ (b : Nat) (blk : Blk), H1[b]? = some blk → H[b]? = some blk ∨ BelB H1.length blk) (h : vc10 (real Try.prog) a0 H (retO xs H1)) : Ret Try.prog 10 [a0] H (.arr xs .own) H1 :=
  ret_mko (an := an10) (t := 2) hm Try.call10 Try.func10 rfl wf10 rfl hn hb (Eq.mpr (tie10 (real Try.prog) a0 H (retO xs H1)) h)
end Go.Proofs.Ytpielcbpfbajlaa


set_option linter.unusedVariables false
set_option linter.unusedSimpArgs false
set_option linter.unnecessarySimpa false
set_option maxRecDepth 20000
set_option maxHeartbeats 2000000
namespace Go.Proofs.Ytpielcbpfbajlaa
open Go Go.Ab Go.Proofs
attribute [local congr] g_bin g_nilS g_nilP g_un g_ext g_bx g_fa g_ld g_st g_ix g_ixA g_slc g_mk g_bs g_bd g_nc g_cv g_len g_lenT g_app g_appB g_cpy g_mm g_call g_callG g_calm g_calmG g_range g_res g_pick g_cond g_loop g_Jv g_eqS g_eqP g_fd g_ixT g_ta g_lkp g_upd g_mkM g_appS g_inv g_callE g_callEG g_invE g_zr
structure IE (H G : Hp) (b bA bD w i : Nat) (S : TS) (fed gr : Int) (nA nD : Nat) : Prop where
  t : TubeAt G b bA bD w S
  fr : Fr0 H G
  w0 : H.length ≤ w
  inn : S.In (500 * i)
  st : 0 ≤ S.st ∧ S.st ≤ i
  en : S.en ≤ fed * fed * gr
  fd : 0 ≤ fed ∧ fed ≤ 500 * i
  gr : 0 ≤ gr ∧ gr ≤ 1000
  a : S.A.length = nA
  d : S.D.length = nD
theorem en_step_le {S : TS} {F : Int} (h : S.In F) (hF : F ≤ 10000000000) : S.step.en ≤ S.en := (TS.en_step (h.ok hF)).1
theorem cond2 {c : Bool} {X : Prop} {K : List V → Hp → Prop} {l l' : List V} {H : Hp} (hx : c = true → K l' H → X) (hl : c = false → l = l') (hK : K l' H) : if c = true then X else K l H := by
  cases c with
  | true => rw [if_pos rfl]; exact hx rfl hK
  | false => rw [if_neg (by simp), hl rfl]; exact hK
theorem c10 (A D : List Int) (j g l n : Int) (Fd : List (List (Int × Int))) (Ar Br : List (List Int)) (H : Hp) : Ret Try.prog 10 [plA A D j g l n Fd Ar Br] H (B true) H := by
  refine mk10 _ rfl (Nat.le_refl _) (.inl rfl) ?_
  simp only [vc10, real]
  repeat (first | (with_reducible first | refine jn_go ?_ | refine ud_go ?_ | refine tr_go ?_ | (refine Hd.go ?_; intro K Q hK hQ; simp only [nod_agg, List.map_cons, nodL_ints, nd_no, nodL_imm, nodL_arr, nodL_lists, List.map_nil, e_bxI, okE_agg, lv_cons, List.length_nil, Nat.zero_add, Nat.reduceAdd, all_c, ck_ints, ck_I, ck_arr, ck_lists, all_n, Bool.and_self, and_true, true_and, nod_cptr, e_ldcA]; subst hK hQ) | refine rn_go ?_ | refine rv_go ?_ | refine jv_go ?_) | refine sd ?_)
  refine call_of (c24 A D j g l n Fd Ar Br _) ?_
  repeat (first | (with_reducible first | refine jn_go ?_ | refine ud_go ?_ | refine tr_go ?_ | (refine Hd.go ?_; intro K Q hK hQ; simp only [nod_imm, e_not, nod_cptr, e_facA, Nat.zero_add, lv_cons, List.length_nil, Nat.reduceAdd, Nat.reduceLeDiff, dr_0, tk_s, tk_0, e_ldcA, nod_agg, List.map_cons, nodL_ints, nd_no, nodL_imm, List.map_nil, true_and, e_gF]; subst hK hQ) | refine rn_go ?_ | refine rv_go ?_ | refine jv_go ?_) | refine sd ?_)
  by_cases hf : fits A D Fd Ar Br = true
  · rw [hf]
    repeat (first | (with_reducible first | refine jn_go ?_ | refine ud_go ?_ | refine tr_go ?_ | (refine Hd.go ?_; intro K Q hK hQ; simp only [Bool.not_true, cond_false]; subst hK hQ) | refine rn_go ?_ | refine rv_go ?_ | refine jv_go ?_) | refine sd ?_)
    have hf' := fits_iff.1 hf
    refine call_of (c19 A D j g l n _ ⟨by omega, by omega⟩) ?_
    by_cases hS : ShOk A D j g l n
    · rw [decide_eq_true hS]
      repeat (first | (with_reducible first | refine jn_go ?_ | refine ud_go ?_ | refine tr_go ?_ | (refine Hd.go ?_; intro K Q hK hQ; simp only [nod_imm, e_not, Bool.not_true, List.getD_cons_succ, List.getD_cons_zero, e_cond, Bool.false_eq_true, if_false, nod_cptr, e_facA, Nat.zero_add, lv_cons, List.length_nil, Nat.reduceAdd, Nat.reduceLeDiff, dr_0, tk_s, tk_0, true_and, e_ldcA, nod_agg, List.map_cons, nodL_ints, nd_no, nodL_imm, List.map_nil]; subst hK hQ) | refine rn_go ?_ | refine rv_go ?_ | refine jv_go ?_) | refine sd ?_)
      refine callE_of (c25 A D j g l n _ ⟨by omega, by omega⟩) ?_
      intro v H1 hq
      rw [if_pos hS] at hq
      obtain ⟨b, bA, bD, bw, rfl, hb, hT, hF⟩ := hq
      have inn : (TS.new A D j g l n).In 0 := TS.in_new hS
      have eS := (TS.Still.new A D j g l n).en
      repeat (first | (with_reducible first | refine jn_go ?_ | refine ud_go ?_ | refine tr_go ?_ | (refine Hd.go ?_; intro K Q hK hQ; simp only [nod_tup, List.map_cons, nod2_ptr, nod2_imm, List.map_nil, e_x20, e_x21, nod_imm, Try.underlying27, e_neq, decide_true, Bool.not_true, nod_ptr, Try.underlying41, e_npeP, e_gF, cond_false, j_one, Try.underlying3]; subst hK hQ) | refine rn_go ?_ | refine rv_go ?_ | refine jv_go ?_) | refine sd ?_)
      refine call_of (c27 b bA bD bw _ _ hT (inn.ok (by decide)) (by rw [eS]; decide)) ?_
      rw [eS]
      repeat (first | (with_reducible first | refine jn_go ?_ | refine ud_go ?_ | refine tr_go ?_ | (refine Hd.go ?_; intro K Q hK hQ; simp only [nod_imm, e_neq, decide_true, Bool.not_true, List.getD_cons_zero, List.getD_cons_succ, e_cond, Bool.false_eq_true, if_false, nod_cptr, e_facA, Nat.zero_add, lv_cons, List.length_nil, Nat.reduceAdd, Nat.reduceLeDiff, dr_0, tk_s, tk_0, true_and, e_fac, e_ldci]; subst hK hQ) | refine rn_go ?_ | refine rv_go ?_ | refine jv_go ?_) | refine sd ?_)
      have ie0 : IE H H1 b bA bD bw 0 (TS.new A D j g l n) 0 0 A.length D.length := ⟨hT, hF, hb.2.2.2, inn, ⟨Int.le_refl 0, Int.le_refl 0⟩, by rw [eS]; decide, ⟨Int.le_refl 0, Int.le_refl 0⟩, ⟨Int.le_refl 0, by decide⟩, rfl, rfl⟩
      refine loop_of (fun q : Nat × Hp × Nat × TS × Int × Int => q.1 ≤ Fd.length ∧ IE H q.2.1 b bA bD q.2.2.1 q.1 q.2.2.2.1 q.2.2.2.2.1 q.2.2.2.2.2 A.length D.length)
        (fun q => [.cptr (plA A D j g l n Fd Ar Br), .ptr b 0, I q.2.2.2.2.1, I q.2.2.2.2.2, ints q.2.2.2.1.A .no, I q.1]) (fun q => q.2.1) (fun q => Fd.length - q.1) (0, H1, bw, TS.new A D j g l n, 0, 0) ⟨Nat.zero_le _, ie0⟩ rfl rfl ?_
      rintro ⟨i, G, w, S, fed, gr⟩ ⟨hi, ie⟩
      dsimp only at hi ie
      repeat (first | (with_reducible first | refine jn_go ?_ | refine ud_go ?_ | refine tr_go ?_ | (refine Hd.go ?_; intro K Q hK hQ; simp only [List.getD_cons_zero, nod_cptr, e_fac, Nat.reduceAdd, lv_cons, List.length_nil, Nat.zero_add, Nat.reduceLeDiff, List.getD_cons_succ, true_and, e_ldcV, nod_arr, nd_no, e_lenA, List.length_map, nod_imm, Try.underlying3, e_lss, e_cond, decide_eq_true_eq]; subst hK hQ) | refine rn_go ?_ | refine rv_go ?_ | refine jv_go ?_) | refine sd ?_)
      by_cases hlt : i < Fd.length
      · have d : (i : Int) < Fd.length := by omega
        have hy := hf'.2.2.2.2.1 i hlt
        have hE : S.en ≤ 4000000000000000000 := Int.le_trans (ie.inn.mono (show 500 * (i : Int) ≤ 30000 by omega)).en (by decide)
        repeat (first | (with_reducible first | refine jn_go ?_ | refine ud_go ?_ | refine tr_go ?_ | (refine Hd.go ?_; intro K Q hK hQ; simp only [d, if_true, List.getD_cons_succ, List.getD_cons_zero, nod_ptr]; subst hK hQ) | refine rn_go ?_ | refine rv_go ?_ | refine jv_go ?_) | refine sd ?_)
        refine call_of (c27 b bA bD w S _ ie.t (ie.inn.ok (by omega)) hE) ?_
        repeat (first | (with_reducible first | refine jn_go ?_ | refine ud_go ?_ | refine tr_go ?_ | (refine Hd.go ?_; intro K Q hK hQ; simp only [List.getD_cons_zero, nod_cptr, e_fac, Nat.reduceAdd, lv_cons, List.length_nil, Nat.zero_add, Nat.reduceLeDiff, List.getD_cons_succ, true_and, e_ldcL, nod_lists, nd_no, e_lenL, nod_imm, Try.underlying3, e_lss, e_gT, j_and', j_one, nod_ptr, Try.underlying27, e_ixL, Int.toNat_natCast, e_ldci, nod_ints, j_tl, j_side]; subst hK hQ) | refine rn_go ?_ | refine rv_go ?_ | refine jv_go ?_) | refine sd ?_)
        refine ⟨fun h => by simp at h; omega, fun _ => by omega, fun h => by simp at h; omega, ?_⟩
        refine jv_go ?_
        generalize hRR : Rv _ = R
        have key : ∀ (cc : Bool) (S1 : TS) (G1 : Hp), TubeAt G1 b bA bD w S1 → Fr0 H G1 → S1.In (500 * i) → S1.st = S.st → S1.en ≤ S.en → S1.A.length = A.length → S1.D.length = D.length → (cc = true → i < Ar.length ∧ S1.A = Ar.getD i []) → (cc = false → S1.A = S.A) → R (B cc) G1 := fun cc S1 G1 t1 f1 in1 st1 en1 a1 d1 ct cf => by
          rw [← hRR]
          have hE1 : S1.en ≤ 4000000000000000000 := Int.le_trans en1 hE
          have now : ints (if cc = true then Ar.getD i [] else S.A) .no = ints S1.A .no := by
            cases cc with
            | true => rw [if_pos rfl, (ct rfl).2]
            | false => rw [if_neg (by simp), cf rfl]
          refine rv_go ?_
          refine rn_go ?_
          refine Hd.go ?_
          intro K Q hK hQ
          simp only [List.getD_cons_zero, List.getD_cons_succ, nod_imm, e_cond]
          subst hK hQ
          refine cond2 (l' := [.cptr (plA A D j g l n Fd Ar Br), .ptr b 0, I fed, I gr, ints S1.A .no, I i, I S.en]) (fun h => ?_) (fun h => ?_) ?_
          · generalize Rn _ = K38
            intro hK
            have q := ct h
            repeat (first | (with_reducible first | refine jn_go ?_ | refine ud_go ?_ | refine tr_go ?_ | (refine Hd.go ?_; intro K Q hK hQ; simp only [List.getD_cons_zero, List.getD_cons_succ, nod_cptr, e_fac, Nat.reduceAdd, lv_cons, List.length_nil, Nat.zero_add, Nat.reduceLeDiff, true_and, e_ldcL, nod_lists, nd_no, nod_imm, e_ixL, Int.toNat_natCast, e_ldci]; subst hK hQ) | refine rn_go ?_ | refine rv_go ?_ | refine jv_go ?_) | refine sd ?_)
            rw [q.2] at hK
            exact hK
          · rw [cf h]; rfl
          · have nn1 := TS.en_nn in1.sh
            have e27 := c27 b bA bD w S1 G1 t1 (in1.ok (by omega)) hE1
            have d1' : decide (S.en < S1.en) = false := decide_eq_false (by omega)
            have d2' : ¬ S1.en < 0 := by omega
            repeat (first | (with_reducible first | refine jn_go ?_ | refine ud_go ?_ | refine tr_go ?_ | (refine Hd.go ?_; intro K Q hK hQ; simp only [List.getD_cons_succ, List.getD_cons_zero, nod_ptr]; subst hK hQ) | refine rn_go ?_ | refine rv_go ?_ | refine jv_go ?_) | refine sd ?_)
            refine call_of e27 ?_
            repeat (first | (with_reducible first | refine jn_go ?_ | refine ud_go ?_ | refine tr_go ?_ | (refine Hd.go ?_; intro K Q hK hQ; simp only [nod_imm, Try.underlying3, List.getD_cons_succ, List.getD_cons_zero, e_gtr, d1', nod_ptr, e_gF, cond_false]; subst hK hQ) | refine rn_go ?_ | refine rv_go ?_ | refine jv_go ?_) | refine sd ?_)
            refine call_of e27 ?_
            repeat (first | (with_reducible first | refine jn_go ?_ | refine ud_go ?_ | refine tr_go ?_ | (refine Hd.go ?_; intro K Q hK hQ; simp only [nod_imm, e_lss, d2', decide_false, List.getD_cons_zero, List.getD_cons_succ, e_cond, Bool.false_eq_true, if_false, nod_ptr]; subst hK hQ) | refine rn_go ?_ | refine rv_go ?_ | refine jv_go ?_) | refine sd ?_)
            refine call_of e27 ?_
            repeat (first | (with_reducible first | refine jn_go ?_ | refine ud_go ?_ | refine tr_go ?_ | (refine Hd.go ?_; intro K Q hK hQ; simp only [List.getD_cons_zero, nod_cptr, e_fac, Nat.reduceAdd, lv_cons, List.length_nil, Nat.zero_add, Nat.reduceLeDiff, List.getD_cons_succ, true_and, e_ldcV, nod_arr, nd_no, nod_imm, ixF, Int.toNat_natCast, nod_ptr]; subst hK hQ) | refine rn_go ?_ | refine rv_go ?_ | refine jv_go ?_) | refine sd ?_)
            generalize hyy : Fd.getD i [] = y at *
            have hb1 := hb.1
            have iw := ie.w0
            have ist := ie.st
            have ien := ie.en
            have ifd := ie.fd
            have igr := ie.gr
            refine cStep (f := .no) t1 in1 (by omega) (by omega) (by omega) (by omega) (.inl rfl) ?_
            intro G2 w1 hw1 u1 g1
            have fr2 : Fr0 H G2 := f1.step g1 hb1
            have w1H : H.length ≤ w1 := by have := f1.1; omega
            have inn2 := in1.nx (show 500 * (i : Int) ≤ 10000000000 by omega) y
            have e27' := c27 b bA bD w1 (S1.nx y) G2 u1 (inn2.ok (by omega)) (Int.le_trans (inn2.mono (show 500 * (i : Int) + 500 ≤ 30500 by omega)).en (by decide))
            have st2 := TS.nx_st S1 y (by omega)
            have nxA := TS.nx_A S1 y
            have nxD := TS.nx_D S1 y
            by_cases hl : FedOk S1.A.length y
            · have ene : S1.er y = 0 := if_pos hl
              have enx : S1.nx y = S1.step.feed y := if_pos hl
              rw [ene]
              repeat (first | (with_reducible first | refine jn_go ?_ | refine ud_go ?_ | refine tr_go ?_ | (refine Hd.go ?_; intro K Q hK hQ; simp only [nod_tup, List.map_cons, nod2_agg, nodL_imm, List.map_nil, nod2_imm, e_x20, e_x21, nod_agg, e_bxI, okE_agg, lv_cons, List.length_nil, Nat.zero_add, Nat.reduceAdd, all_c, ck_I, all_n, Bool.and_self, and_true, true_and, List.getD_cons_zero, List.getD_cons_succ, nod_imm, Try.underlying27, e_neq, decide_true, Bool.not_true, e_cond, Bool.false_eq_true, if_false]; subst hK hQ) | refine rn_go ?_ | refine rv_go ?_ | refine jv_go ?_) | refine sd ?_)
              have hsec := TS.fed_sect hl
              have hsum : fsum y ≤ 500 := hl.2.2
              have okf : ∀ f, f ∈ y → (0 ≤ f.1 ∧ f.1 ≤ S1.A.length - 1) ∧ -500 ≤ f.2 ∧ f.2 ≤ 500 := fun f hf => by
                have := List.all_eq_true.1 hl.1 f hf
                unfold okF at this
                rw [Bool.and_eq_true, inB_iff, inB_iff] at this
                exact this
              have pbd : ∀ k, 0 ≤ fsum (y.take k) ∧ fsum (y.take k) ≤ 15000 := fun k => by
                have h1 := fsum_bd (n := S1.A.length) (y.take k) (List.all_eq_true.2 fun f hf => List.all_eq_true.1 hl.1 f (List.mem_of_mem_take hf))
                have h2 : (y.take k).length ≤ 30 := by rw [List.length_take]; omega
                omega
              refine loop_of (fun k : Nat => k ≤ y.length) (fun k => [.cptr (plA A D j g l n Fd Ar Br), .ptr b 0, I (fed + fsum (y.take k)), I (gmax S1.A gr (y.take k)), ints S1.A .no, I i, I S1.en, B ((y.take k).any fun f => !decide (f.2 = 0)), I k]) (fun _ => G2) (fun k => y.length - k) 0 (Nat.zero_le _) (by simp [fsum, gmax]) rfl ?_
              intro k hk
              have pk := pbd k
              repeat (first | (with_reducible first | refine jn_go ?_ | refine ud_go ?_ | refine tr_go ?_ | (refine Hd.go ?_; intro K Q hK hQ; simp only [List.getD_cons_zero, nod_cptr, e_fac, Nat.reduceAdd, lv_cons, List.length_nil, Nat.zero_add, Nat.reduceLeDiff, List.getD_cons_succ, true_and, e_ldcV, nod_arr, nd_no, nod_imm, ixF, Int.toNat_natCast, hyy, e_lenA, List.length_map, Try.underlying3, e_lss, e_cond, decide_eq_true_eq]; subst hK hQ) | refine rn_go ?_ | refine rv_go ?_ | refine jv_go ?_) | refine sd ?_)
              by_cases hkt : k < y.length
              · have d : (k : Int) < y.length := by omega
                have fo := okf _ (getD_memA y (0, 0) hkt)
                have pk1 := pbd (k + 1)
                have tk := take_snocA y (0, 0) hkt
                repeat (first | (with_reducible first | refine jn_go ?_ | refine ud_go ?_ | refine tr_go ?_ | (refine Hd.go ?_; intro K Q hK hQ; simp only [d, if_true, List.getD_cons_zero, nod_cptr, e_fac, Nat.reduceAdd, lv_cons, List.length_nil, Nat.zero_add, Nat.reduceLeDiff, List.getD_cons_succ, true_and, e_ldcV, nod_arr, nd_no, nod_imm, ixF, Int.toNat_natCast, hyy, ixV, e_ldcA, nod_agg, List.map_cons, nodL_imm, List.map_nil, e_bxI, okE_agg, all_c, ck_I, all_n, Bool.and_self, and_true, e_ldc, e_neg, e_max2, Try.underlying3, e_add, nod_ints, e_ix, e_neq, e_gF, j_or', j_one]; subst hK hQ) | refine rn_go ?_ | refine rv_go ?_ | refine jv_go ?_) | refine sd ?_)
                have e1 : fed + fsum (y.take (k + 1)) = fed + fsum (y.take k) + max (y.getD k (0, 0)).2 (0 - (y.getD k (0, 0)).2) := by
                  rw [tk, fsum_app]
                  show fed + (fsum (y.take k) + (absI (y.getD k (0, 0)).2 + 0)) = _
                  unfold absI; omega
                have e2 : gmax S1.A gr (y.take (k + 1)) = max (gmax S1.A gr (y.take k)) (S1.A.getD (y.getD k (0, 0)).1.toNat 0) := by rw [tk, gmax_snoc]
                have e3 : ((y.take (k + 1)).any fun f => !decide (f.2 = 0)) = (((y.take k).any fun f => !decide (f.2 = 0)) || !decide ((y.getD k (0, 0)).2 = 0)) := by rw [tk, List.any_append]; simp only [List.any_cons, List.any_nil, Bool.or_false]
                exact ⟨k + 1, by omega, by rw [e1, e2, e3]; rfl, rfl, by omega⟩
              · have d : ¬ (k : Int) < y.length := by omega
                have ek : k = y.length := by omega
                subst ek
                rw [List.take_length] at pk ⊢
                have gb1 := gmax_ge S1.A gr y
                have gb2 := gmax_le (A := S1.A) (M := 1000) (fun k hk => (okAs_get in1.sh.ra hk).2) y hsec igr.2
                have en2 : (S1.nx y).en ≤ (fed + fsum y) * (fed + fsum y) * gmax S1.A gr y := by
                  rw [enx, TS.en_enW]
                  refine TS.en_feedW (S := S1.step) in1.sh y S1.step.W fed (fun f hf => ⟨?_, ?_⟩) (in1.stp (by omega)).wl ifd.1 ?_
                  · have := hsec f hf
                    show f.1.toNat < S1.A.length + S1.D.length; omega
                  · have h1 := hsec f hf
                    have h2 := gb1.2 f hf
                    show arL S1.A S1.D f.1.toNat ≤ _
                    unfold arL
                    rw [if_pos h1]; exact h2
                  · rw [← TS.en_enW]
                    have h1 := (en_step_le in1 (show 500 * (i : Int) ≤ 10000000000 by omega))
                    have h2 := Int.mul_le_mul_of_nonneg_left gb1.1 (sq0 fed)
                    omega
                have gb0 : 0 ≤ gmax S1.A gr y := by omega
                have fB : 0 ≤ fed + fsum y ∧ fed + fsum y ≤ 30500 := by omega
                have fI : fed + fsum y ≤ 500 * ((i + 1 : Nat) : Int) := by omega
                have any0 : (y.any fun f => !decide (f.2 = 0)) = false → (S1.nx y).en ≤ S1.en := fun h => by
                  rw [enx]
                  refine TS.en_quiet in1 (by omega) hl fun f hf => ?_
                  have := List.any_eq_false.1 h f hf
                  simpa using this
                generalize hfd : fed + fsum y = fd at *
                generalize hgm : gmax S1.A gr y = gm at *
                have m1 := abs_mul_le (a := fd) (b := fd) (A := 30500) (B := 30500) (by omega) (by omega) (by omega) (by omega)
                have m2 := abs_mul_le (a := fd * fd) (b := gm) (A := 930250000) (B := 1000) (by omega) (by omega) (by omega) (by omega)
                have d2 : ¬ fd * fd * gm < (S1.nx y).en := by omega
                have fin : ∃ q : Nat × Hp × Nat × TS × Int × Int, (q.1 ≤ Fd.length ∧ IE H q.2.1 b bA bD q.2.2.1 q.1 q.2.2.2.1 q.2.2.2.2.1 q.2.2.2.2.2 A.length D.length) ∧ [.cptr (plA A D j g l n Fd Ar Br), .ptr b 0, I q.2.2.2.2.1, I q.2.2.2.2.2, ints q.2.2.2.1.A .no, I q.1] = [.cptr (plA A D j g l n Fd Ar Br), .ptr b 0, I fd, I gm, ints S1.A .no, I (i + 1)] ∧ q.2.1 = G2 ∧ Fd.length - q.1 < Fd.length - i := by
                  refine ⟨(i + 1, G2, w1, S1.nx y, fd, gm), ⟨by show i + 1 ≤ Fd.length; omega, u1, fr2, w1H, inn2.mono (by show 500 * (i : Int) + 500 ≤ 500 * ((i + 1 : Nat) : Int); omega), ?_, en2, ⟨fB.1, fI⟩, ⟨gb0, gb2⟩, by rw [nxA]; exact a1, by rw [nxD]; exact d1⟩, ?_, rfl, by show Fd.length - (i + 1) < Fd.length - i; omega⟩
                  · show 0 ≤ (S1.nx y).st ∧ (S1.nx y).st ≤ ((i + 1 : Nat) : Int); omega
                  · show [V.cptr (plA A D j g l n Fd Ar Br), .ptr b 0, I fd, I gm, ints (S1.nx y).A .no, I ((i + 1 : Nat) : Int)] = _
                    rw [nxA]; rfl
                by_cases hld : (y.any fun f => !decide (f.2 = 0)) = true
                · rw [hld]
                  repeat (first | (with_reducible first | refine jn_go ?_ | refine ud_go ?_ | refine tr_go ?_ | (refine Hd.go ?_; intro K Q hK hQ; simp only [d, if_false, List.getD_cons_succ, List.getD_cons_zero, nod_imm, e_not, Bool.not_true, nod_ptr, Try.underlying3, e_gT, cond_false, j_one, e_mul, e_gF]; subst hK hQ) | refine rn_go ?_ | refine rv_go ?_ | refine jv_go ?_) | refine sd ?_)
                  refine call_of e27' ?_
                  repeat (first | (with_reducible first | refine jn_go ?_ | refine ud_go ?_ | refine tr_go ?_ | (refine Hd.go ?_; intro K Q hK hQ; simp only [nod_imm, e_gtr, d2, decide_false, List.getD_cons_zero, List.getD_cons_succ, e_cond, Bool.false_eq_true, if_false, Try.underlying3, e_add]; subst hK hQ) | refine rn_go ?_ | refine rv_go ?_ | refine jv_go ?_) | refine sd ?_)
                  exact fin
                · have h0 := Bool.eq_false_iff.2 hld
                  have q0 := any0 h0
                  have d3 : decide (S1.en < (S1.nx y).en) = false := decide_eq_false (by omega)
                  rw [h0]
                  repeat (first | (with_reducible first | refine jn_go ?_ | refine ud_go ?_ | refine tr_go ?_ | (refine Hd.go ?_; intro K Q hK hQ; simp only [d, if_false, List.getD_cons_succ, List.getD_cons_zero, nod_imm, e_not, Bool.not_false, nod_ptr, Try.underlying3, e_gT, cond_true]; subst hK hQ) | refine rn_go ?_ | refine rv_go ?_ | refine jv_go ?_) | refine sd ?_)
                  refine call_of e27' ?_
                  repeat (first | (with_reducible first | refine jn_go ?_ | refine ud_go ?_ | refine tr_go ?_ | (refine Hd.go ?_; intro K Q hK hQ; simp only [nod_imm, e_gtr, d3, List.getD_cons_succ, List.getD_cons_zero, nod_ptr, Try.underlying3, e_mul, e_gF, cond_false]; subst hK hQ) | refine rn_go ?_ | refine rv_go ?_ | refine jv_go ?_) | refine sd ?_)
                  refine call_of e27' ?_
                  repeat (first | (with_reducible first | refine jn_go ?_ | refine ud_go ?_ | refine tr_go ?_ | (refine Hd.go ?_; intro K Q hK hQ; simp only [nod_imm, e_gtr, d2, decide_false, List.getD_cons_zero, List.getD_cons_succ, e_cond, Bool.false_eq_true, if_false, Try.underlying3, e_add]; subst hK hQ) | refine rn_go ?_ | refine rv_go ?_ | refine jv_go ?_) | refine sd ?_)
                  exact fin
            · have ene : S1.er y = 2 := if_neg hl
              have enx : S1.nx y = S1 := if_neg hl
              rw [ene]
              rw [enx] at e27' u1
              repeat (first | (with_reducible first | refine jn_go ?_ | refine ud_go ?_ | refine tr_go ?_ | (refine Hd.go ?_; intro K Q hK hQ; simp only [nod_tup, List.map_cons, nod2_agg, nodL_imm, List.map_nil, nod2_imm, e_x20, e_x21, nod_agg, e_bxI, okE_agg, lv_cons, List.length_nil, Nat.zero_add, Nat.reduceAdd, all_c, ck_I, all_n, Bool.and_self, and_true, true_and, List.getD_cons_zero, List.getD_cons_succ, nod_imm, Try.underlying27, e_neq, Int.reduceEq, decide_false, Bool.not_false, e_cond, if_true, nod_ptr]; subst hK hQ) | refine rn_go ?_ | refine rv_go ?_ | refine jv_go ?_) | refine sd ?_)
              refine call_of e27' ?_
              repeat (first | (with_reducible first | refine jn_go ?_ | refine ud_go ?_ | refine tr_go ?_ | (refine Hd.go ?_; intro K Q hK hQ; simp only [nod_imm, Try.underlying3, List.getD_cons_succ, List.getD_cons_zero, e_neq, decide_true, Bool.not_true, e_cond, Bool.false_eq_true, if_false, e_add]; subst hK hQ) | refine rn_go ?_ | refine rv_go ?_ | refine jv_go ?_) | refine sd ?_)
              refine ⟨(i + 1, G2, w1, S1, fed, gr), ⟨by show i + 1 ≤ Fd.length; omega, u1, fr2, w1H, in1.mono (by show 500 * (i : Int) ≤ 500 * ((i + 1 : Nat) : Int); omega), ?_, Int.le_trans en1 ien, ?_, igr, a1, d1⟩, rfl, rfl, by show Fd.length - (i + 1) < Fd.length - i; omega⟩
              · show 0 ≤ S1.st ∧ S1.st ≤ ((i + 1 : Nat) : Int); omega
              · show 0 ≤ fed ∧ fed ≤ 500 * ((i + 1 : Nat) : Int); omega
        by_cases hc : (decide ((i : Int) < Ar.length) && decide ((i : Int) < Br.length)) = true
        · rw [hc]
          simp only [Bool.and_eq_true, decide_eq_true_eq] at hc
          have h6 := hf'.2.2.2.2.2.1 i (by omega)
          have h7 := hf'.2.2.2.2.2.2 i (by omega)
          obtain ⟨G1, r, t1, l1, f1⟩ := c40r b bA bD w S (Ar.getD i []) (Br.getD i []) G ie.t (ie.inn.ok (by omega)) (by omega) (by omega)
          repeat (first | (with_reducible first | refine jn_go ?_ | refine ud_go ?_ | refine tr_go ?_ | (refine Hd.go ?_; intro K Q hK hQ; simp only [cond_true]; subst hK hQ) | refine rn_go ?_ | refine rv_go ?_ | refine jv_go ?_) | refine sd ?_)
          refine call_ofD r ?_
          have hfr : Fr0 H G1 := ⟨by rw [l1]; exact ie.fr.1, fun c hc => (f1 c (by omega) (fun _ => by omega) (by have := ie.w0; omega)).trans (ie.fr.2 c hc)⟩
          by_cases hcc : S.chB (Ar.getD i []) (Br.getD i []) = true
          · rw [if_pos hcc] at t1 ⊢
            repeat (first | (with_reducible first | refine jn_go ?_ | refine ud_go ?_ | refine tr_go ?_ | (refine Hd.go ?_; intro K Q hK hQ; simp only [nod_imm, e_eql, decide_true]; subst hK hQ) | refine rn_go ?_ | refine rv_go ?_ | refine jv_go ?_) | refine sd ?_)
            obtain ⟨q1, q2, -, -⟩ := TS.chB_iff.1 hcc
            exact key true _ _ t1 hfr (ie.inn.change (by omega) hcc) rfl (TS.en_change (ie.inn.ok (by omega)) hcc) (q1.trans ie.a) (q2.trans ie.d) (fun _ => ⟨by omega, rfl⟩) (fun h => by cases h)
          · rw [if_neg hcc] at t1 ⊢
            repeat (first | (with_reducible first | refine jn_go ?_ | refine ud_go ?_ | refine tr_go ?_ | (refine Hd.go ?_; intro K Q hK hQ; simp only [nod_imm, e_eql, Int.reduceEq, decide_false]; subst hK hQ) | refine rn_go ?_ | refine rv_go ?_ | refine jv_go ?_) | refine sd ?_)
            exact key false _ _ t1 hfr ie.inn rfl (Int.le_refl _) ie.a ie.d (fun h => by cases h) (fun _ => rfl)
        · rw [Bool.eq_false_iff.2 hc]
          repeat (first | (with_reducible first | refine jn_go ?_ | refine ud_go ?_ | refine tr_go ?_ | (refine Hd.go ?_; intro K Q hK hQ; simp only [cond_false]; subst hK hQ) | refine rn_go ?_ | refine rv_go ?_ | refine jv_go ?_) | refine sd ?_)
          exact key false S G ie.t ie.fr ie.inn rfl (Int.le_refl _) ie.a ie.d (fun h => by cases h) (fun _ => rfl)
      · have d : ¬ (i : Int) < Fd.length := by omega
        repeat (first | (with_reducible first | refine jn_go ?_ | refine ud_go ?_ | refine tr_go ?_ | (refine Hd.go ?_; intro K Q hK hQ; simp only [d, if_false]; subst hK hQ) | refine rn_go ?_ | refine rv_go ?_ | refine jv_go ?_) | refine sd ?_)
        refine call_of (c17 _) ?_
        with_reducible first | refine rv_go ?_ | refine rn_go ?_ | skip
        exact end1F ie.fr
    · rw [decide_eq_false hS]
      repeat (first | (with_reducible first | refine jn_go ?_ | refine ud_go ?_ | refine tr_go ?_ | (refine Hd.go ?_; intro K Q hK hQ; simp only [nod_imm, e_not, Bool.not_false, List.getD_cons_succ, List.getD_cons_zero, e_cond, if_true]; subst hK hQ) | refine rn_go ?_ | refine rv_go ?_ | refine jv_go ?_) | refine sd ?_)
      refine call_of (c17 _) ?_
      with_reducible first | refine rv_go ?_ | refine rn_go ?_ | skip
      first | exact end1 (fzI _) | exact end1A (fzI _)
  · rw [Bool.eq_false_iff.2 hf]
    repeat (first | (with_reducible first | refine jn_go ?_ | refine ud_go ?_ | refine tr_go ?_ | (refine Hd.go ?_; intro K Q hK hQ; simp only [Bool.not_false, cond_true, List.getD_cons_succ, List.getD_cons_zero, nod_imm, e_cond, if_true]; subst hK hQ) | refine rn_go ?_ | refine rv_go ?_ | refine jv_go ?_) | refine sd ?_)
    refine call_of (c17 _) ?_
    with_reducible first | refine rv_go ?_ | refine rn_go ?_ | skip
    first | exact end1 (fzI _) | exact end1A (fzI _)
end Go.Proofs.Ytpielcbpfbajlaa


set_option linter.unusedVariables false
set_option linter.unusedSimpArgs false
set_option linter.unnecessarySimpa false
set_option maxRecDepth 20000
set_option maxHeartbeats 2000000
namespace Go.Proofs.Ytpielcbpfbajlaa
open Go Go.Ab Go.Proofs
attribute [local congr] g_bin g_nilS g_nilP g_un g_ext g_bx g_fa g_ld g_st g_ix g_ixA g_slc g_mk g_bs g_bd g_nc g_cv g_len g_lenT g_app g_appB g_cpy g_mm g_call g_callG g_calm g_calmG g_range g_res g_pick g_cond g_loop g_Jv g_eqS g_eqP g_fd g_ixT g_ta g_lkp g_upd g_mkM g_appS g_inv g_callE g_callEG g_invE g_zr
open Go.ChangeShapes Go.WideShapes Go.ChangeAt Go.RowKit
theorem own : ownKnob Try.prog.godebug = none := by kernel_rfl
theorem laidOut : laidOutB Try.prog = true := by kernel_rfl
set_option maxRecDepth 100000 in
theorem lifted (os : Os) (started : os.Started) (H : Type) (enc : TypeId × Value → H) :
    ReturnsInHanded {} Try.checked os 10 .any (Rows.tractEnergySpec.pre6 enc Try.prog Try.f10 Rows.tractEnergyRow.domain false) (Rows.tractEnergySpec.post enc Try.prog Try.f10 false true false false) := by
  refine returnsInHanded_of_change (C := Try.checked) own started (by kernel_rfl) Try.func10
    (ChangeSpec.witness6 (enc := enc) (C := Try.checked) false ⟨#[], #[.agg #[.slice none 0 0, .slice none 0 0, .int .i64 0, .int .i64 0, .int .i64 0, .int .i64 0, .slice none 0 0, .slice none 0 0, .slice none 0 0]], []⟩ 8 (by kernel_rfl) (by kernel_rfl) (by kernel_rfl) (by kernel_rfl)) ?_
  intro W base args ds gs before hval0 hW hcnd _
  have hval : ∀ (j : Nat) t v, Try.f10.params[j]? = some t → args[j]? = some v → Value.okWide Try.prog W .any base t v := hval0
  have hW' := hW
  obtain ⟨p, q, hA0, hV, rfl, hfz, hnd⟩ := hW
  have hA : DataW.TrodAll enc Try.prog W 0 (fun _ => true) true Try.f10.params.toList args.toList ds p := hA0
  rw [Try.params10] at hA hval
  obtain ⟨v0, vs0, d0, ds0, p0, q0, hargs, rfl, rfl, h0, r0⟩ := trodAll_cons hA
  obtain ⟨rfl, rfl, rfl⟩ := trodAll_nil r0
  obtain rfl : args = #[v0] := by cases args; simp_all
  obtain ⟨rfl, rfl⟩ := trodVars_none hV
  have lt0 : ∀ x ∈ p0, x.block < W.heap.size := by obtain ⟨m, hm⟩ := h0; exact DataW.trod_lt m _ _ _ hm
  obtain ⟨x0, y0, e0⟩ := in_play (hval 0 _ v0 rfl rfl) h0
  clear hA0 hval0
  refine (bridge (args := [.agg (playL x0)]) (ra := #[v0]) (c10 x0.1.1 x0.1.2.1 x0.1.2.2.1 x0.1.2.2.2.1 x0.1.2.2.2.2.1 x0.1.2.2.2.2.2 x0.2.1 x0.2.2.1 x0.2.2.2  []) rfl (by intro a ha; simp at ha; rcases ha with rfl <;> rfl) (fun i => ?_)).mono fun e W' ⟨he, bel⟩ => ?_
  · match i with
    | 0 => exact e0
    | i + 1 => exact .junk _
  · subst he
    exact ⟨_, rfl, _, _, _, [], _, [], hW', trodAll_mk1 (shut_bool Try.underlying4 _), (trodAll_cons_mk (Below.trod laidOut (by kernel_rfl) (of_decide_eq_true (by kernel_rfl)) h0 bel lt0) trodAll_mk0), rfl, bel.frame _, fun h => by cases h⟩
theorem over : Rows.tractEnergyRow.holds Try.pinned (OpenSpec.ofChange Rows.tractEnergySpec) :=
  OpenClaim.holds_of_wide 10 Try.f10 rfl rfl rfl rfl rfl rfl rfl ⟨rfl, rfl, rfl, rfl, rfl⟩ rfl rfl rfl rfl rfl (by kernel_rfl) Try.func10 (by kernel_rfl)
    (of_decide_eq_true (by kernel_rfl)) (by unfold Func.isWrapper; first | (rw [if_pos (by decide +kernel)]; kernel_rfl) | (rw [if_neg (by decide +kernel)]; exact ⟨rfl, rfl⟩))
    (fun os started H enc _ => lifted os started H enc)
theorem tractEnergy_holds : Rows.TractEnergySaid := over
#print axioms tractEnergy_holds
end Go.Proofs.Ytpielcbpfbajlaa

